/-
  Linear forms of terms: the specification's side.
-/
import Derived.Test.YtpfeecgbiikpaaaGreatA15p
import Derived.Test.YtpfeecgbiikpaaaGreatA06s
import Derived.Test.YtpfeecgbiikpaaaGreatLgK13
import Derived.Test.YtpfeecgbiikpaaaGreatLgK10
import Derived.Test.YtpfeecgbiikpaaaGreatLgK12
namespace Go.Proofs.YtpfeecgbiikpaaaGreat
open Go Go.Lg
set_option linter.unusedSimpArgs false
set_option linter.unusedVariables false
set_option maxHeartbeats 4000000
attribute [local irreducible] SW runL runQ runG runQG FC Ret1 toF redoL anyB
def kp123 : List (Nat × List Nat) := [(0, [1, 2]), (1, [2, 16]), (2, [4]), (3, [2, 5]), (4, [2, 5, 21]), (6, [2, 5, 30]), (7, [4]), (5, [2, 5]), (8, [4])]
attribute [go_sem] kp123
theorem l15Poly_fc (p : PolyT) (n : Int) : FC S 123 [] [] [] [PolyD p, .int .i64 n] (.bool (tst (PolyOkP n p))) [] [] := by
  refine fc_body Tryz.func123 rfl (by kernel_rfl) (by simp [Tryz.f123]) fun B => ?_
  simp only [Tryz.ntmps123, enumD, List.map_nil, List.map_cons, List.length_map, Nat.zero_add, Nat.reduceAdd]
  refine sw_bnd_agg 0 1 rfl rfl fun hb0_1 => ?_
  simp only [D.bnd, List.length_map] at hb0_1
  repeat' first
    | exact Bool.noConfusion h
    | refine sw_seq ?_
    | refine sw_block ?_
    | refine sw_skip ?_
    | refine sw_inBlock ?_
    | refine sw_go 0 kp123 fun K hK => ?_
    | refine fun (K : List Oper → LS → Prop) (hK : KOk S 0 _ _ _ K) => ?_
    | ((first | refine runL_go ?_ | refine runQ_go ?_); simp (disch := (refine Om.mk ?_; omega)) only [go_sem])
    | (refine hK.nil ?_; clear hK K; simp only [go_sem])
    | (refine runG_fork rfl rfl rfl rfl rfl (fun h => ?_) (fun h => ?_) <;> (try simp (disch := (refine Om.mk ?_; omega)) only [go_sem] at h))
    | (refine hK.skip rfl (by simp only [dstOk, Nat.reduceLT]) ?_)
    | (refine sw_cond rfl (fun h => ?_) (fun h => ?_) <;> (try simp (disch := (refine Om.mk ?_; omega)) only [go_sem] at h))
    | (refine sw_exit rfl ?_)
    | (refine sw_loopEnd ?_)
    | ((first | refine sw_ret (ret0 ?_) | refine sw_ret ?_); simp (disch := (refine Om.mk ?_; omega)) only [go_sem, Tryz.results123])
    | refine hK.call rfl rfl rfl (l1In_fc _ _ _) ⟨(by intro p hp; cases hp), rfl, rfl, (by simp only [dstOk, Nat.reduceLT])⟩ ?_
    | (refine hK.fork rfl rfl rfl (fun h => ?_) (fun h => ?_) <;> (try simp (disch := (refine Om.mk ?_; omega)) only [go_sem] at h))
    | (with_reducible refine And.intro (by first | omega | (simp only [List.length_append, List.length_take, List.length_drop, List.length_cons, List.length_nil, List.length_map]; omega)) ?_)
    | ((with_reducible refine And.intro ?_ ?_); · first | (intro x hx; subst hx; rfl) | exact upR_mem fun _ _ => rfl | exact mapR_mem fun _ _ => rfl | (intro x; refine And.intro ?_ ?_ <;> (intros; subst_vars; rfl)))
    | fail
  · exact fun h => absurd h.1 (by omega)
  · exact fun h => absurd h.1 (by omega)
  refine sw_loopU (ι := Nat) (fun i => [(5, .int .i64 i)]) (fun _ => []) (fun i => i ≤ p.coef.length ∧ (∀ j < i, 0 ≤ p.coef.getD j default ∧ p.coef.getD j default ≤ 9)) (fun i => p.coef.length - i) 0 (by (refine covers_mk0 rfl rfl ?_ ?_ ?_ ?_ <;> simp (disch := (refine Om.mk ?_; omega)) only [go_sem] <;> (try omega))) ⟨by omega, ?_⟩ (fun i ⟨hi, hj⟩ => ?_)
  rotate_left
  simp only [go_sem]
  repeat' first
    | exact Bool.noConfusion h
    | refine sw_seq ?_
    | refine sw_block ?_
    | refine sw_skip ?_
    | refine sw_inBlock ?_
    | refine sw_go 0 kp123 fun K hK => ?_
    | refine fun (K : List Oper → LS → Prop) (hK : KOk S 0 _ _ _ K) => ?_
    | ((first | refine runL_go ?_ | refine runQ_go ?_); simp (disch := (refine Om.mk ?_; omega)) only [go_sem])
    | (refine hK.nil ?_; clear hK K; simp only [go_sem])
    | (refine runG_fork rfl rfl rfl rfl rfl (fun h => ?_) (fun h => ?_) <;> (try simp (disch := (refine Om.mk ?_; omega)) only [go_sem] at h))
    | (refine hK.skip rfl (by simp only [dstOk, Nat.reduceLT]) ?_)
    | (refine sw_cond rfl (fun h => ?_) (fun h => ?_) <;> (try simp (disch := (refine Om.mk ?_; omega)) only [go_sem] at h))
    | (refine sw_exit rfl ?_)
    | (refine sw_loopEnd ?_)
    | ((first | refine sw_ret (ret0 ?_) | refine sw_ret ?_); simp (disch := (refine Om.mk ?_; omega)) only [go_sem, Tryz.results123])
    | refine hK.call rfl rfl rfl (l1In_fc _ _ _) ⟨(by intro p hp; cases hp), rfl, rfl, (by simp only [dstOk, Nat.reduceLT])⟩ ?_
    | (refine hK.fork rfl rfl rfl (fun h => ?_) (fun h => ?_) <;> (try simp (disch := (refine Om.mk ?_; omega)) only [go_sem] at h))
    | (with_reducible refine And.intro (by first | omega | (simp only [List.length_append, List.length_take, List.length_drop, List.length_cons, List.length_nil, List.length_map]; omega)) ?_)
    | ((with_reducible refine And.intro ?_ ?_); · first | (intro x hx; subst hx; rfl) | exact upR_mem fun _ _ => rfl | exact mapR_mem fun _ _ => rfl | (intro x; refine And.intro ?_ ?_ <;> (intros; subst_vars; rfl)))
    | fail
  · exact fun hp => h (hp.2 _ (getD_mem _ i (by omega)))
  · exact ⟨i + 1, by (refine covers_mk0 rfl rfl ?_ ?_ ?_ ?_ <;> simp (disch := (refine Om.mk ?_; omega)) only [go_sem] <;> (try omega)), ⟨by omega, upto_succ hj h⟩, by omega⟩
  · exact ⟨⟨by assumption, by assumption⟩, all_getD (P := fun x => 0 ≤ x ∧ x ≤ 9) fun j hj' => hj j (by omega)⟩
  · intro j hj'; omega
def kp85 : List (Nat × List Nat) := [(0, [1, 2]), (1, [1, 2, 16]), (2, [4]), (3, [1, 2, 5]), (4, [1, 2, 5, 20]), (6, [1, 2, 5, 33]), (7, [4]), (5, [1, 2, 5]), (8, [4])]
attribute [go_sem] kp85
theorem specPolysOk_fc (tk : Tk) (rs : List Int) (ps : List PolyT) : FC S 85 [] [] [] [.agg [.sl .any (rs.map (.int .i64))], .sl tk (ps.map PolyD)] (.bool (tst (PolysOkP rs ps))) [] [] := by
  refine fc_body Tryz.func85 rfl (by kernel_rfl) (by simp [Tryz.f85]) fun B => ?_
  simp only [Tryz.ntmps85, enumD, List.map_nil, List.map_cons, List.length_map, Nat.zero_add, Nat.reduceAdd]
  refine sw_bnd 1 rfl fun hb1 => ?_
  simp only [D.bnd, List.length_map] at hb1
  repeat' first
    | exact Bool.noConfusion h
    | refine sw_seq ?_
    | refine sw_block ?_
    | refine sw_skip ?_
    | refine sw_inBlock ?_
    | refine sw_go 0 kp85 fun K hK => ?_
    | refine fun (K : List Oper → LS → Prop) (hK : KOk S 0 _ _ _ K) => ?_
    | refine sw_goD kp85 (by kernel_rfl) fun K hK => ?_
    | ((first | refine runL_go ?_ | refine runQ_go ?_); simp (disch := (refine Om.mk ?_; omega)) only [go_sem])
    | (refine hK.nil ?_; clear hK K; simp only [go_sem])
    | (refine runG_fork rfl rfl rfl rfl rfl (fun h => ?_) (fun h => ?_) <;> (try simp (disch := (refine Om.mk ?_; omega)) only [go_sem] at h))
    | (refine runQG_fork rfl rfl rfl rfl rfl (fun h => ?_) (fun h => ?_) <;> (try simp (disch := (refine Om.mk ?_; omega)) only [go_sem] at h))
    | (refine hK.skip rfl (by simp only [dstOk, Nat.reduceLT]) ?_)
    | (refine sw_cond rfl (fun h => ?_) (fun h => ?_) <;> (try simp (disch := (refine Om.mk ?_; omega)) only [go_sem] at h))
    | (refine sw_exit rfl ?_)
    | (refine sw_loopEnd ?_)
    | ((first | refine sw_ret (ret0 ?_) | refine sw_ret ?_); simp (disch := (refine Om.mk ?_; omega)) only [go_sem, Tryz.results85])
    | refine hK.call rfl rfl rfl (specSigOk_fc _ _) ⟨(by intro p hp; cases hp), rfl, rfl, (by simp only [dstOk, Nat.reduceLT])⟩ ?_
    | (refine hK.fork rfl rfl rfl (fun h => ?_) (fun h => ?_) <;> (try simp (disch := (refine Om.mk ?_; omega)) only [go_sem] at h))
    | (with_reducible refine And.intro (by first | omega | (simp only [List.length_append, List.length_take, List.length_drop, List.length_cons, List.length_nil, List.length_map]; omega)) ?_)
    | ((with_reducible refine And.intro ?_ ?_); · first | (intro x hx; subst hx; rfl) | exact upR_mem fun _ _ => rfl | exact mapR_mem fun _ _ => rfl | (intro x; refine And.intro ?_ ?_ <;> (intros; subst_vars; rfl)))
    | fail
  · exact fun h => absurd h.1.1 (by assumption)
  · exact fun h => absurd h.1.2 (by omega)
  refine sw_loopU (ι := Nat) (fun i => [(5, .int .i64 i)]) (fun _ => []) (fun i => i ≤ ps.length ∧ (∀ j < i, PolyOkP (rs.getD j default) (ps.getD j default))) (fun i => ps.length - i) 0 (by (refine covers_mk0 rfl rfl ?_ ?_ ?_ ?_ <;> simp (disch := (refine Om.mk ?_; omega)) only [go_sem] <;> (try omega))) ⟨by omega, ?_⟩ (fun i ⟨hi, hj⟩ => ?_)
  rotate_left
  simp only [go_sem]
  repeat' first
    | exact Bool.noConfusion h
    | refine sw_seq ?_
    | refine sw_block ?_
    | refine sw_skip ?_
    | refine sw_inBlock ?_
    | refine sw_go 0 kp85 fun K hK => ?_
    | refine fun (K : List Oper → LS → Prop) (hK : KOk S 0 _ _ _ K) => ?_
    | refine sw_goD kp85 (by kernel_rfl) fun K hK => ?_
    | ((first | refine runL_go ?_ | refine runQ_go ?_); simp (disch := (refine Om.mk ?_; omega)) only [go_sem])
    | (refine hK.nil ?_; clear hK K; simp only [go_sem])
    | (refine runG_fork rfl rfl rfl rfl rfl (fun h => ?_) (fun h => ?_) <;> (try simp (disch := (refine Om.mk ?_; omega)) only [go_sem] at h))
    | (refine runQG_fork rfl rfl rfl rfl rfl (fun h => ?_) (fun h => ?_) <;> (try simp (disch := (refine Om.mk ?_; omega)) only [go_sem] at h))
    | (refine hK.skip rfl (by simp only [dstOk, Nat.reduceLT]) ?_)
    | (refine sw_cond rfl (fun h => ?_) (fun h => ?_) <;> (try simp (disch := (refine Om.mk ?_; omega)) only [go_sem] at h))
    | (refine sw_exit rfl ?_)
    | (refine sw_loopEnd ?_)
    | ((first | refine sw_ret (ret0 ?_) | refine sw_ret ?_); simp (disch := (refine Om.mk ?_; omega)) only [go_sem, Tryz.results85])
    | refine hK.call rfl rfl rfl (l15Poly_fc (ps.getD i default) (rs.getD i default)) ⟨(by intro p hp; cases hp), rfl, rfl, (by simp only [dstOk, Nat.reduceLT])⟩ ?_
    | (refine hK.fork rfl rfl rfl (fun h => ?_) (fun h => ?_) <;> (try simp (disch := (refine Om.mk ?_; omega)) only [go_sem] at h))
    | (with_reducible refine And.intro (by first | omega | (simp only [List.length_append, List.length_take, List.length_drop, List.length_cons, List.length_nil, List.length_map]; omega)) ?_)
    | ((with_reducible refine And.intro ?_ ?_); · first | (intro x hx; subst hx; rfl) | exact upR_mem fun _ _ => rfl | exact mapR_mem fun _ _ => rfl | (intro x; refine And.intro ?_ ?_ <;> (intros; subst_vars; rfl)))
    | fail
  · exact fun hp => h (hp.2 i (by omega))
  · exact ⟨i + 1, by (refine covers_mk0 rfl rfl ?_ ?_ ?_ ?_ <;> simp (disch := (refine Om.mk ?_; omega)) only [go_sem] <;> (try omega)), ⟨by omega, upto_succ hj h⟩, by omega⟩
  · exact ⟨⟨by assumption, by assumption⟩, fun j hj' => hj j (by omega)⟩
  · intro j hj'; omega
def kp125 : List (Nat × List Nat) := [(0, [2, 3]), (1, [2, 3, 5]), (2, [2, 3, 5, 10]), (4, [2, 3, 5, 38]), (5, [4]), (3, [2, 3, 5]), (6, [4])]
attribute [go_sem] kp125
theorem l15Most_fc (a b : PolyT) (ha : ∀ x ∈ a.coef, 0 ≤ x) (hb : ∀ x ∈ b.coef, 0 ≤ x) : FC S 125 [] [] [] [PolyD a, PolyD b] (.bool (tst (MostP a b))) [] [] := by
  refine fc_body Tryz.func125 rfl (by kernel_rfl) (by simp [Tryz.f125]) fun B => ?_
  simp only [Tryz.ntmps125, enumD, List.map_nil, List.map_cons, List.length_map, Nat.zero_add, Nat.reduceAdd]
  refine sw_bnd_agg 0 1 rfl rfl fun hb0_1 => ?_
  simp only [D.bnd, List.length_map] at hb0_1
  refine sw_bnd_agg 1 1 rfl rfl fun hb1_1 => ?_
  simp only [D.bnd, List.length_map] at hb1_1
  repeat' first
    | exact Bool.noConfusion h
    | refine sw_seq ?_
    | refine sw_block ?_
    | refine sw_skip ?_
    | refine sw_inBlock ?_
    | refine sw_go 0 kp125 fun K hK => ?_
    | refine fun (K : List Oper → LS → Prop) (hK : KOk S 0 _ _ _ K) => ?_
    | refine sw_goD kp125 (by kernel_rfl) fun K hK => ?_
    | ((first | refine runL_go ?_ | refine runQ_go ?_); simp (disch := (refine Om.mk ?_; omega)) only [go_sem])
    | (refine hK.nil ?_; clear hK K; simp only [go_sem])
    | (refine runG_fork rfl rfl rfl rfl rfl (fun h => ?_) (fun h => ?_) <;> (try simp (disch := (refine Om.mk ?_; omega)) only [go_sem] at h))
    | (refine runQG_fork rfl rfl rfl rfl rfl (fun h => ?_) (fun h => ?_) <;> (try simp (disch := (refine Om.mk ?_; omega)) only [go_sem] at h))
    | (refine hK.skip rfl (by simp only [dstOk, Nat.reduceLT]) ?_)
    | (refine sw_cond rfl (fun h => ?_) (fun h => ?_) <;> (try simp (disch := (refine Om.mk ?_; omega)) only [go_sem] at h))
    | (refine sw_exit rfl ?_)
    | (refine sw_loopEnd ?_)
    | ((first | refine sw_ret (ret0 ?_) | refine sw_ret ?_); simp (disch := (refine Om.mk ?_; omega)) only [go_sem, Tryz.results125])
    | (refine hK.fork rfl rfl rfl (fun h => ?_) (fun h => ?_) <;> (try simp (disch := (refine Om.mk ?_; omega)) only [go_sem] at h))
    | (with_reducible refine And.intro (by first | omega | (simp only [List.length_append, List.length_take, List.length_drop, List.length_cons, List.length_nil, List.length_map]; omega)) ?_)
    | ((with_reducible refine And.intro ?_ ?_); · first | (intro x hx; subst hx; rfl) | exact upR_mem fun _ _ => rfl | exact mapR_mem fun _ _ => rfl | (intro x; refine And.intro ?_ ?_ <;> (intros; subst_vars; rfl)))
    | fail
  refine sw_loopU (ι := Nat) (fun i => [(5, .int .i64 i)]) (fun _ => []) (fun i => i ≤ a.coef.length ∧ (∀ j < i, a.coef.getD j default ≤ b.coef.getD j default)) (fun i => a.coef.length - i) 0 (by (refine covers_mk0 rfl rfl ?_ ?_ ?_ ?_ <;> simp (disch := (refine Om.mk ?_; omega)) only [go_sem] <;> (try omega))) ⟨by omega, ?_⟩ (fun i ⟨hi, hj⟩ => ?_)
  rotate_left
  simp only [go_sem]
  have h1 := mem_getD (P := fun x => 0 ≤ x) (Int.le_refl _) ha i
  have h2 := mem_getD (P := fun x => 0 ≤ x) (Int.le_refl _) hb i
  have h3 : b.coef.length ≤ i → b.coef.getD i default = 0 := fun h => addJ_past a.coef b.coef 0 h
  repeat' first
    | exact Bool.noConfusion h
    | refine sw_seq ?_
    | refine sw_block ?_
    | refine sw_skip ?_
    | refine sw_inBlock ?_
    | refine sw_go 0 kp125 fun K hK => ?_
    | refine fun (K : List Oper → LS → Prop) (hK : KOk S 0 _ _ _ K) => ?_
    | refine sw_goD kp125 (by kernel_rfl) fun K hK => ?_
    | ((first | refine runL_go ?_ | refine runQ_go ?_); simp (disch := (refine Om.mk ?_; omega)) only [go_sem])
    | (refine hK.nil ?_; clear hK K; simp only [go_sem])
    | (refine runG_fork rfl rfl rfl rfl rfl (fun h => ?_) (fun h => ?_) <;> (try simp (disch := (refine Om.mk ?_; omega)) only [go_sem] at h))
    | (refine runQG_fork rfl rfl rfl rfl rfl (fun h => ?_) (fun h => ?_) <;> (try simp (disch := (refine Om.mk ?_; omega)) only [go_sem] at h))
    | (refine hK.skip rfl (by simp only [dstOk, Nat.reduceLT]) ?_)
    | (refine sw_cond rfl (fun h => ?_) (fun h => ?_) <;> (try simp (disch := (refine Om.mk ?_; omega)) only [go_sem] at h))
    | (refine sw_exit rfl ?_)
    | (refine sw_loopEnd ?_)
    | ((first | refine sw_ret (ret0 ?_) | refine sw_ret ?_); simp (disch := (refine Om.mk ?_; omega)) only [go_sem, Tryz.results125])
    | (refine hK.fork rfl rfl rfl (fun h => ?_) (fun h => ?_) <;> (try simp (disch := (refine Om.mk ?_; omega)) only [go_sem] at h))
    | (with_reducible refine And.intro (by first | omega | (simp only [List.length_append, List.length_take, List.length_drop, List.length_cons, List.length_nil, List.length_map]; omega)) ?_)
    | ((with_reducible refine And.intro ?_ ?_); · first | (intro x hx; subst hx; rfl) | exact upR_mem fun _ _ => rfl | exact mapR_mem fun _ _ => rfl | (intro x; refine And.intro ?_ ?_ <;> (intros; subst_vars; rfl)))
    | fail
  · exact fun hp => absurd (hp i (by omega)) (by have := h3 (by omega); omega)
  · exact fun hp => absurd (hp i (by omega)) (by omega)
  · exact ⟨i + 1, by (refine covers_mk0 rfl rfl ?_ ?_ ?_ ?_ <;> simp (disch := (refine Om.mk ?_; omega)) only [go_sem] <;> (try omega)), ⟨by omega, upto_succ hj (by omega)⟩, by omega⟩
  · exact ⟨i + 1, by (refine covers_mk0 rfl rfl ?_ ?_ ?_ ?_ <;> simp (disch := (refine Om.mk ?_; omega)) only [go_sem] <;> (try omega)), ⟨by omega, upto_succ hj (by omega)⟩, by omega⟩
  · exact fun j hj' => hj j (by omega)
  · intro j hj'; omega
theorem end_step {rs t : List Int} {a i : Nat} {need m : Int} (hi : i < t.length) (h3 : 1 ≤ need) (h4 : endS rs t a = scan rs (t.drop i) need i) (h0 : 0 ≤ arS rs (t.getD i default)) (hm : m = need + arS rs (t.getD i default) - 1) : (m = 0 ∧ endS rs t a = ((i + 1 : Nat) : Int)) ∨ (1 ≤ m ∧ endS rs t a = scan rs (t.drop (i + 1)) m (i + 1)) := by
  have hb := scan_step rs t need i hi
  rw [if_neg (by omega)] at hb
  subst hm
  by_cases h : need + arS rs (t.getD i default) - 1 = 0
  · rw [if_pos h] at hb
    exact .inl ⟨h, by rw [h4, hb]; omega⟩
  · rw [if_neg h] at hb
    exact .inr ⟨by omega, by rw [h4, hb]⟩
def kp121 : List (Nat × List Nat) := [(0, [1, 2, 3]), (1, [1, 2, 3, 7]), (2, [1, 2, 3, 7, 9]), (3, [1, 2, 3, 7, 14]), (4, [1, 2, 3, 7]), (5, [1, 2, 3, 7]), (6, [1, 2, 3, 7]), (7, [6])]
attribute [go_sem] kp121
theorem l13End_fc (rs t : List Int) (a : Nat) (hT : TermOkP rs t) (ha : a < t.length) : FC S 121 [] [] [] [.agg [.sl .any (rs.map (.int .i64))], .sl .any (t.map (.int .i64)), .int .i64 a] (.int .i64 (endS rs t a)) [] [] := by
  have he := endS_ge hT ha
  have hl := hT.2.1.2
  refine fc_body Tryz.func121 rfl (by kernel_rfl) (by simp [Tryz.f121]) fun B => ?_
  simp only [Tryz.ntmps121, enumD, List.map_nil, List.map_cons, List.length_map, Nat.zero_add, Nat.reduceAdd]
  refine sw_bnd 1 rfl fun hb1 => ?_
  simp only [D.bnd, List.length_map] at hb1
  repeat' first
    | exact Bool.noConfusion h
    | refine sw_seq ?_
    | refine sw_block ?_
    | refine sw_skip ?_
    | refine sw_inBlock ?_
    | refine sw_go 0 kp121 fun K hK => ?_
    | refine fun (K : List Oper → LS → Prop) (hK : KOk S 0 _ _ _ K) => ?_
    | refine sw_goD kp121 (by kernel_rfl) fun K hK => ?_
    | ((first | refine runL_go ?_ | refine runQ_go ?_); simp (disch := (refine Om.mk ?_; omega)) only [go_sem])
    | (refine hK.nil ?_; clear hK K; simp only [go_sem])
    | (refine sw_cond rfl (fun h => ?_) (fun h => ?_) <;> (try simp (disch := (refine Om.mk ?_; omega)) only [go_sem] at h))
    | (refine sw_exit rfl ?_)
    | (refine sw_loopEnd ?_)
    | ((first | refine sw_ret (ret0 ?_) | refine sw_ret ?_); simp (disch := (refine Om.mk ?_; omega)) only [go_sem, Tryz.results121])
    | (with_reducible refine And.intro (by first | omega | (simp only [List.length_append, List.length_take, List.length_drop, List.length_cons, List.length_nil, List.length_map]; omega)) ?_)
    | ((with_reducible refine And.intro ?_ ?_); · first | (intro x hx; subst hx; rfl) | exact upR_mem fun _ _ => rfl | exact mapR_mem fun _ _ => rfl | (intro x; refine And.intro ?_ ?_ <;> (intros; subst_vars; rfl)))
    | fail
  refine sw_loopU (ι := Nat × Int) (fun p => [(2, .int .i64 p.1), (7, .int .i64 p.2)]) (fun p => []) (fun p => (p.1 ≤ t.length ∧ 0 ≤ p.2 ∧ p.2 ≤ 1 + 3 * p.1) ∧ ((p.2 = 0 ∧ endS rs t a = p.1) ∨ (1 ≤ p.2 ∧ endS rs t a = scan rs (t.drop p.1) p.2 p.1))) (fun p => t.length - p.1) (a, 1) (by (refine covers_mk0 rfl rfl ?_ ?_ ?_ ?_ <;> simp (disch := (refine Om.mk ?_; omega)) only [go_sem] <;> (try omega))) ?_ (fun p hp => ?_)
  rotate_left
  simp only [go_sem]
  obtain ⟨i, need⟩ := p
  obtain ⟨⟨h1, h2, h2'⟩, h3⟩ := hp
  dsimp only at h1 h2 h2' h3
  have hlt : 1 ≤ need → i < t.length := fun h => Classical.byContradiction fun hn => by
    have hx := scan_end rs t need i (by omega)
    omega
  have hlow : i < t.length → _ := fun h => hT.low h
  have hv : i < t.length → t.getD i default < 0 → arS rs (t.getD i default) = 0 := fun hi h => arS_var (by have := hlow hi; omega)
  have hsy : 0 ≤ t.getD i default → t.getD i default < rs.length → arS rs (t.getD i default) = rs.getD (t.getD i default).toNat default := fun h h' => arS_sym (by omega)
  repeat' first
    | exact Bool.noConfusion h
    | refine sw_seq ?_
    | refine sw_block ?_
    | refine sw_skip ?_
    | refine sw_inBlock ?_
    | refine sw_go 0 kp121 fun K hK => ?_
    | refine fun (K : List Oper → LS → Prop) (hK : KOk S 0 _ _ _ K) => ?_
    | refine sw_goD kp121 (by kernel_rfl) fun K hK => ?_
    | ((first | refine runL_go ?_ | refine runQ_go ?_); simp (disch := (refine Om.mk ?_; omega)) only [go_sem])
    | (refine hK.nil ?_; clear hK K; simp only [go_sem])
    | (refine sw_cond rfl (fun h => ?_) (fun h => ?_) <;> (try simp (disch := (refine Om.mk ?_; omega)) only [go_sem] at h))
    | (refine sw_exit rfl ?_)
    | (refine sw_loopEnd ?_)
    | ((first | refine sw_ret (ret0 ?_) | refine sw_ret ?_); simp (disch := (refine Om.mk ?_; omega)) only [go_sem, Tryz.results121])
    | (with_reducible refine And.intro (by first | omega | (simp only [List.length_append, List.length_take, List.length_drop, List.length_cons, List.length_nil, List.length_map]; omega)) ?_)
    | ((with_reducible refine And.intro ?_ ?_); · first | (intro x hx; subst hx; rfl) | exact upR_mem fun _ _ => rfl | exact mapR_mem fun _ _ => rfl | (intro x; refine And.intro ?_ ?_ <;> (intros; subst_vars; rfl)))
    | fail
  · have hi := hlt (by omega)
    have e := hsy (by omega) (hlow hi).1.2
    have hl0 := (hlow hi).2
    exact ⟨(i + 1, need + rs.getD (t.getD i default).toNat default - 1), by (refine covers_mk0 rfl rfl ?_ ?_ ?_ ?_ <;> simp (disch := (refine Om.mk ?_; omega)) only [go_sem] <;> (try omega)), ⟨⟨by omega, by omega, by omega⟩, end_step (need := need) (m := need + rs.getD (t.getD i default).toNat default - 1) hi (by omega) (by omega) hl0.1 (by rw [e])⟩, by omega⟩
  · have hi := hlt (by omega)
    have e := hv hi (by omega)
    exact ⟨(i + 1, need - 1), by (refine covers_mk0 rfl rfl ?_ ?_ ?_ ?_ <;> simp (disch := (refine Om.mk ?_; omega)) only [go_sem] <;> (try omega)), ⟨⟨by omega, by omega, by omega⟩, end_step (need := need) (m := need - 1) hi (by omega) (by omega) (by omega) (by rw [e]; omega)⟩, by omega⟩
  · omega
  · exact .inr ⟨by simp, rfl⟩
def kp148 : List (Nat × List Nat) := [(0, [1, 2]), (1, [1, 2, 5]), (2, [1, 2, 5, 13]), (3, [4]), (4, [1, 2, 5, 6]), (5, [1, 2, 5, 6, 7]), (6, [1, 2, 5, 6, 7, 23]), (8, [1, 2, 5, 6, 7, 8]), (9, [1, 2, 5, 7, 8]), (10, [1, 2, 5, 6, 7]), (7, [1, 2, 5, 6, 7]), (11, [4])]
attribute [go_sem] kp148
theorem l13Parts_fc (rs t : List Int) (hT : TermOkP rs t) : FC S 148 [] [] [] [.agg [.sl .any (rs.map (.int .i64))], .sl .any (t.map (.int .i64))] (.sl .any ((partsU rs t (arS rs (t.getD 0 default)).toNat).map IntsD)) [] [] := by
  have hl := hT.2.1
  have hlo := hT.low (show 0 < t.length by omega)
  have hv : t.getD 0 default < 0 → arS rs (t.getD 0 default) = 0 := fun h => arS_var (by omega)
  have hsy : 0 ≤ t.getD 0 default → t.getD 0 default < rs.length → arS rs (t.getD 0 default) = rs.getD (t.getD 0 default).toNat default := fun h h' => arS_sym (by omega)
  have hlt : ∀ j < (arS rs (t.getD 0 default)).toNat, 0 < nthB rs t 1 j ∧ nthB rs t 1 j < t.length := fun j hj => nthB_lt hT (by omega) (by omega)
  have hle : ∀ j ≤ (arS rs (t.getD 0 default)).toNat, 0 < nthB rs t 1 j ∧ nthB rs t 1 j ≤ t.length := fun j hj => nthB_le hT (by omega) (by omega)
  generalize hk : (arS rs (t.getD 0 default)).toNat = k at *
  refine fc_body Tryz.func148 rfl (by kernel_rfl) (by simp [Tryz.f148]) fun B => ?_
  simp only [Tryz.ntmps148, enumD, List.map_nil, List.map_cons, List.length_map, Nat.zero_add, Nat.reduceAdd]
  refine sw_bnd 1 rfl fun hb1 => ?_
  simp only [D.bnd, List.length_map] at hb1
  repeat' first
    | exact Bool.noConfusion h
    | refine sw_seq ?_
    | refine sw_block ?_
    | refine sw_skip ?_
    | refine sw_inBlock ?_
    | refine sw_go 0 kp148 fun K hK => ?_
    | refine fun (K : List Oper → LS → Prop) (hK : KOk S 0 _ _ _ K) => ?_
    | refine sw_goD kp148 (by kernel_rfl) fun K hK => ?_
    | ((first | refine runL_go ?_ | refine runQ_go ?_); simp (disch := (refine Om.mk ?_; omega)) only [go_sem])
    | (refine hK.nil ?_; clear hK K; simp only [go_sem])
    | (refine sw_cond rfl (fun h => ?_) (fun h => ?_) <;> (try simp (disch := (refine Om.mk ?_; omega)) only [go_sem] at h))
    | (refine sw_exit rfl ?_)
    | (refine sw_loopEnd ?_)
    | ((first | refine sw_ret (ret0 ?_) | refine sw_ret ?_); simp (disch := (refine Om.mk ?_; omega)) only [go_sem, Tryz.results148])
    | (with_reducible refine And.intro (by first | omega | (simp only [List.length_append, List.length_take, List.length_drop, List.length_cons, List.length_nil, List.length_map]; omega)) ?_)
    | ((with_reducible refine And.intro ?_ ?_); · first | (intro x hx; subst hx; rfl) | exact upR_mem fun _ _ => rfl | exact mapR_mem fun _ _ => rfl | (intro x; refine And.intro ?_ ?_ <;> (intros; subst_vars; rfl)))
    | fail
  · rw [show k = 0 by omega]; rfl
  refine sw_tok 5 37000 22 1 rfl (.inr rfl) rfl ?_
  simp only [go_sem]
  refine sw_loopT (ι := Nat) (fun j => [(7, .int .i64 j), (6, .int .i64 (nthB rs t 1 j)), (5, .sl (.own 37000 22 1) ((partsU rs t j).map IntsD))]) (fun _ => []) (fun _ => [37000]) (fun j => j ≤ k) (fun j => k - j) 0 (by (refine covers_mk0 rfl rfl ?_ ?_ ?_ ?_ <;> simp (disch := (refine Om.mk ?_; omega)) only [go_sem] <;> (try omega)); all_goals exact ⟨rfl, rfl, rfl⟩) (by omega) (fun j hj => ?_)
  simp only [go_sem]
  have h3 := hle j hj
  have h4 := hlt j
  have h5 : j < k → nthB rs t 1 j < endS rs t (nthB rs t 1 j) ∧ endS rs t (nthB rs t 1 j) ≤ t.length := fun h => endS_ge hT (h4 h).2
  have h6 : j < k → ((endS rs t (nthB rs t 1 j)).toNat : Int) = endS rs t (nthB rs t 1 j) := fun h => by have := h5 h; omega
  have h7 := partsU_len rs t j
  have h8 := partsU_succ rs t j
  have e := hsy (by omega) (by omega)
  by_cases hjk : j < k
  · repeat' first
      | ((exfalso; omega))
      | exact Bool.noConfusion h
      | refine sw_seq ?_
      | refine sw_block ?_
      | refine sw_skip ?_
      | refine sw_inBlock ?_
      | refine sw_go 0 kp148 fun K hK => ?_
      | refine fun (K : List Oper → LS → Prop) (hK : KOk S 0 _ _ _ K) => ?_
      | refine sw_goD kp148 (by kernel_rfl) fun K hK => ?_
      | ((first | refine runL_go ?_ | refine runQ_go ?_); simp (disch := (refine Om.mk ?_; omega)) only [go_sem])
      | (refine hK.nil ?_; clear hK K; simp only [go_sem])
      | (refine sw_cond rfl (fun h => ?_) (fun h => ?_) <;> (try simp (disch := (refine Om.mk ?_; omega)) only [go_sem] at h))
      | (refine sw_exit rfl ?_)
      | (refine sw_loopEnd ?_)
      | ((first | refine sw_ret (ret0 ?_) | refine sw_ret ?_); simp (disch := (refine Om.mk ?_; omega)) only [go_sem, Tryz.results148])
      | refine hK.call rfl rfl rfl (l13End_fc rs t (nthB rs t 1 j) hT (h4 hjk).2) ⟨(by intro p hp; cases hp), rfl, rfl, (by simp only [dstOk, Nat.reduceLT])⟩ ?_
      | (with_reducible refine And.intro (by first | omega | (simp only [List.length_append, List.length_take, List.length_drop, List.length_cons, List.length_nil, List.length_map]; omega)) ?_)
      | ((with_reducible refine And.intro ?_ ?_); · first | (intro x hx; subst hx; rfl) | exact upR_mem fun _ _ => rfl | exact mapR_mem fun _ _ => rfl | (intro x; refine And.intro ?_ ?_ <;> (intros; subst_vars; rfl)))
      | fail
    exact ⟨j + 1, (by (refine covers_mk0 rfl rfl ?_ ?_ ?_ ?_ <;> simp (disch := (refine Om.mk ?_; omega)) only [go_sem] <;> (try omega)); rw [h8, List.map_append]; exact ⟨rfl, (h6 hjk).symm, by omega⟩), by omega, by omega⟩
  · repeat' first
      | ((exfalso; omega))
      | exact Bool.noConfusion h
      | refine sw_seq ?_
      | refine sw_block ?_
      | refine sw_skip ?_
      | refine sw_inBlock ?_
      | refine sw_go 0 kp148 fun K hK => ?_
      | refine fun (K : List Oper → LS → Prop) (hK : KOk S 0 _ _ _ K) => ?_
      | refine sw_goD kp148 (by kernel_rfl) fun K hK => ?_
      | ((first | refine runL_go ?_ | refine runQ_go ?_); simp (disch := (refine Om.mk ?_; omega)) only [go_sem])
      | (refine hK.nil ?_; clear hK K; simp only [go_sem])
      | (refine sw_cond rfl (fun h => ?_) (fun h => ?_) <;> (try simp (disch := (refine Om.mk ?_; omega)) only [go_sem] at h))
      | (refine sw_exit rfl ?_)
      | (refine sw_loopEnd ?_)
      | ((first | refine sw_ret (ret0 ?_) | refine sw_ret ?_); simp (disch := (refine Om.mk ?_; omega)) only [go_sem, Tryz.results148])
      | (with_reducible refine And.intro (by first | omega | (simp only [List.length_append, List.length_take, List.length_drop, List.length_cons, List.length_nil, List.length_map]; omega)) ?_)
      | ((with_reducible refine And.intro ?_ ?_); · first | (intro x hx; subst hx; rfl) | exact upR_mem fun _ _ => rfl | exact mapR_mem fun _ _ => rfl | (intro x; refine And.intro ?_ ?_ <;> (intros; subst_vars; rfl)))
      | fail
    rw [show j = k by omega]
attribute [local irreducible] addJ specJ specL
def kp165 : List (Nat × List Nat) := [(0, [2, 3, 4, 6]), (1, [2, 4, 6, 8]), (2, [2, 4, 6, 8, 9]), (3, [2, 4, 6, 8, 9, 27]), (5, [2, 4, 6, 8, 9, 34]), (6, [2, 4, 6, 8, 9]), (7, [2, 4, 6, 8, 9]), (4, [2, 4, 6, 8, 9]), (8, [6, 8, 10]), (9, [6, 8, 10, 61]), (11, [6, 8, 10, 69]), (12, [6, 7]), (10, [6, 8, 10]), (13, [6, 7])]
attribute [go_sem] kp165
theorem l15AddL_fc (a b : PolyT) (c : Int) (ha : GoodB (100 * MF) a) (hb : GoodB MF b) (hc : 0 ≤ c ∧ c ≤ 9) : FC S 165 [] [] [] [.agg [.int .i64 a.const, .sl (.lab [1]) (a.coef.map (.int .i64))], .agg [.int .i64 b.const, .sl (.lab [1]) (b.coef.map (.int .i64))], .int .i64 c] (.tup [PolyD (addR a b c).1, .bool (addR a b c).2]) [] [] := by
  have hla := ha.2.2
  have hlb := hb.2.2
  have hcc : 0 ≤ c * b.const ∧ c * b.const ≤ 9 * MF := ⟨Int.mul_nonneg hc.1 hb.1.1, Int.mul_le_mul hc.2 hb.1.2 hb.1.1 (by omega)⟩
  have hac := ha.1
  simp only [MF] at hcc hac
  refine fc_bodyF Tryz.func165 rfl (by kernel_rfl) (by simp [Tryz.f165]) fun B N hOff => ?_
  simp only [Tryz.ntmps165, enumD, List.map_nil, List.map_cons, List.length_map, Nat.zero_add, Nat.reduceAdd]
  repeat' first
    | ((refine sw_goXL 0 kp165 13 [11] (id := 1) (by kernel_rfl) (by kernel_rfl) ?_))
    | exact Bool.noConfusion h
    | refine sw_seq ?_
    | refine sw_block ?_
    | refine sw_skip ?_
    | refine sw_inBlock ?_
    | refine sw_go 0 kp165 fun K hK => ?_
    | refine sw_goT 0 kp165 17 (id := 7) (by kernel_rfl) fun K hK => ?_
    | refine sw_goT 0 kp165 4 (id := 13) (by kernel_rfl) fun K hK => ?_
    | refine fun (K : List Oper → LS → Prop) (hK : KOk S 0 _ _ _ K) => ?_
    | refine sw_goD kp165 (by kernel_rfl) fun K hK => ?_
    | ((first | refine runL_go ?_ | refine runQ_go ?_); simp (disch := (refine Om.mk ?_; omega)) only [go_sem])
    | (refine hK.nil ?_; clear hK K; simp only [go_sem])
    | (refine sw_cond rfl (fun h => ?_) (fun h => ?_) <;> (try simp (disch := (refine Om.mk ?_; omega)) only [go_sem] at h))
    | (refine sw_exit rfl ?_)
    | (refine sw_loopEnd ?_)
    | ((first | refine sw_ret (ret0 ?_) | refine sw_ret ?_); simp (disch := (refine Om.mk ?_; omega)) only [go_sem, Tryz.results165])
    | (with_reducible refine And.intro (by first | omega | (simp only [List.length_append, List.length_take, List.length_drop, List.length_cons, List.length_nil, List.length_map]; omega)) ?_)
    | ((with_reducible refine And.intro ?_ ?_); · first | (intro x hx; subst hx; rfl) | exact upR_mem fun _ _ => rfl | exact mapR_mem fun _ _ => rfl | (intro x; refine And.intro ?_ ?_ <;> (intros; subst_vars; rfl)))
    | fail
  refine LexX.part 10 fun K hK => ?_
  repeat' first
    | exact Bool.noConfusion h
    | refine sw_seq ?_
    | refine sw_block ?_
    | refine sw_skip ?_
    | refine sw_inBlock ?_
    | refine sw_go 0 kp165 fun K hK => ?_
    | refine sw_goT 0 kp165 10 (id := 1) (by kernel_rfl) fun K hK => ?_
    | refine sw_goT 0 kp165 17 (id := 7) (by kernel_rfl) fun K hK => ?_
    | refine sw_goT 0 kp165 4 (id := 13) (by kernel_rfl) fun K hK => ?_
    | refine fun (K : List Oper → LS → Prop) (hK : KOk S 0 _ _ _ K) => ?_
    | refine sw_goD kp165 (by kernel_rfl) fun K hK => ?_
    | ((first | refine runL_go ?_ | refine runQ_go ?_); simp (disch := (refine Om.mk ?_; omega)) only [go_sem])
    | (refine hK.nil ?_; clear hK K; simp only [go_sem])
    | (refine sw_cond rfl (fun h => ?_) (fun h => ?_) <;> (try simp (disch := (refine Om.mk ?_; omega)) only [go_sem] at h))
    | (refine sw_exit rfl ?_)
    | (refine sw_loopEnd ?_)
    | ((first | refine sw_ret (ret0 ?_) | refine sw_ret ?_); simp (disch := (refine Om.mk ?_; omega)) only [go_sem, Tryz.results165])
    | (with_reducible refine And.intro (by first | omega | (simp only [List.length_append, List.length_take, List.length_drop, List.length_cons, List.length_nil, List.length_map]; omega)) ?_)
    | ((with_reducible refine And.intro ?_ ?_); · first | (intro x hx; subst hx; rfl) | exact upR_mem fun _ _ => rfl | exact mapR_mem fun _ _ => rfl | (intro x; refine And.intro ?_ ?_ <;> (intros; subst_vars; rfl)))
    | fail
  refine LexX.app 22000 rfl rfl rfl rfl rfl ⟨by decide, (fun x hx => by obtain ⟨y, _, rfl⟩ := List.mem_map.1 hx; rfl), by simp; omega, by simp; omega⟩ ⟨by simp only [Nat.reduceLT], rfl⟩ ?_
  refine LexX.go fun K hK => ?_
  repeat' first
    | ((refine hK.alloc rfl rfl ⟨(by simp only [Nat.reduceLT]), rfl⟩ ?_; simp only [go_sem]))
    | ((refine toF_go ?_; simp only [go_sem]))
    | ((refine lops_go 0 ?_; refine fun (K : List Oper → LS → Prop) (hK : KOk S 0 _ _ _ K) => ?_; simp only [go_sem]))
    | exact Bool.noConfusion h
    | refine sw_seq ?_
    | refine sw_block ?_
    | refine sw_skip ?_
    | refine sw_inBlock ?_
    | refine sw_go 0 kp165 fun K hK => ?_
    | refine sw_goT 0 kp165 10 (id := 1) (by kernel_rfl) fun K hK => ?_
    | refine sw_goT 0 kp165 17 (id := 7) (by kernel_rfl) fun K hK => ?_
    | refine sw_goT 0 kp165 4 (id := 13) (by kernel_rfl) fun K hK => ?_
    | refine fun (K : List Oper → LS → Prop) (hK : KOk S 0 _ _ _ K) => ?_
    | refine sw_goD kp165 (by kernel_rfl) fun K hK => ?_
    | ((first | refine runL_go ?_ | refine runQ_go ?_); simp (disch := (refine Om.mk ?_; omega)) only [go_sem])
    | (refine hK.nil ?_; clear hK K; simp only [go_sem])
    | (refine sw_cond rfl (fun h => ?_) (fun h => ?_) <;> (try simp (disch := (refine Om.mk ?_; omega)) only [go_sem] at h))
    | (refine sw_exit rfl ?_)
    | (refine sw_loopEnd ?_)
    | ((first | refine sw_ret (ret0 ?_) | refine sw_ret ?_); simp (disch := (refine Om.mk ?_; omega)) only [go_sem, Tryz.results165])
    | (with_reducible refine And.intro (by first | omega | (simp only [List.length_append, List.length_take, List.length_drop, List.length_cons, List.length_nil, List.length_map]; omega)) ?_)
    | ((with_reducible refine And.intro ?_ ?_); · first | (intro x hx; subst hx; rfl) | exact upR_mem fun _ _ => rfl | exact mapR_mem fun _ _ => rfl | (intro x; refine And.intro ?_ ?_ <;> (intros; subst_vars; rfl)))
    | fail
  refine sw_loopT (ι := Nat) (fun i => [(9, .int .i64 i)]) (fun i => [(8, [.int .i64 (a.const + c * b.const), .sl (.own 22000 2 1) ((specJ a.coef b.coef c i).map (.int .i64))])]) (fun _ => [22000]) (fun i => i ≤ b.coef.length) (fun i => b.coef.length - i) 0 (by rw [specJ_zero]; (refine covers_mk0 rfl rfl ?_ ?_ ?_ ?_ <;> simp (disch := (refine Om.mk ?_; omega)) only [go_sem] <;> (try omega))) (by omega) (fun i hi => ?_)
  simp only [go_sem]
  have l1 := specJ_len a.coef b.coef c hi
  have hbi := mem_getD (P := fun x => 0 ≤ x ∧ x ≤ MF) ⟨Int.le_refl _, by decide⟩ hb.2.1 i
  have hai := mem_getD (P := fun x => 0 ≤ x ∧ x ≤ 100 * MF) ⟨Int.le_refl _, by decide⟩ ha.2.1 i
  have hm : 0 ≤ c * b.coef.getD i default ∧ c * b.coef.getD i default ≤ 9 * MF := ⟨Int.mul_nonneg hc.1 hbi.1, Int.mul_le_mul hc.2 hbi.2 hbi.1 (by omega)⟩
  have hLi : (specL a.coef b.coef c i).getD i default = a.coef.getD i default := by rw [specL_get, addJ_get _ _ _ _ hi, if_neg (by omega), Int.add_zero]
  simp only [MF] at hai hm
  repeat' first
    | ((refine sw_renC 39000 22000 rfl rfl ?_; simp only [go_sem]))
    | ((refine sw_hold (id := 7) ?_))
    | exact Bool.noConfusion h
    | refine sw_seq ?_
    | refine sw_block ?_
    | refine sw_skip ?_
    | refine sw_inBlock ?_
    | refine sw_go 0 kp165 fun K hK => ?_
    | refine sw_goT 0 kp165 10 (id := 1) (by kernel_rfl) fun K hK => ?_
    | refine sw_goT 0 kp165 17 (id := 7) (by kernel_rfl) fun K hK => ?_
    | refine sw_goT 0 kp165 4 (id := 13) (by kernel_rfl) fun K hK => ?_
    | refine fun (K : List Oper → LS → Prop) (hK : KOk S 0 _ _ _ K) => ?_
    | refine sw_goD kp165 (by kernel_rfl) fun K hK => ?_
    | ((first | refine runL_go ?_ | refine runQ_go ?_); simp (disch := (refine Om.mk ?_; omega)) only [go_sem])
    | (refine hK.nil ?_; clear hK K; simp only [go_sem])
    | (refine sw_cond rfl (fun h => ?_) (fun h => ?_) <;> (try simp (disch := (refine Om.mk ?_; omega)) only [go_sem] at h))
    | (refine sw_exit rfl ?_)
    | (refine sw_loopEnd ?_)
    | ((first | refine sw_ret (ret0 ?_) | refine sw_ret ?_); simp (disch := (refine Om.mk ?_; omega)) only [go_sem, Tryz.results165])
    | (with_reducible refine And.intro (by first | omega | (simp only [List.length_append, List.length_take, List.length_drop, List.length_cons, List.length_nil, List.length_map]; omega)) ?_)
    | ((with_reducible refine And.intro ?_ ?_); · first | (intro x hx; subst hx; rfl) | exact upR_mem fun _ _ => rfl | exact mapR_mem fun _ _ => rfl | (intro x; refine And.intro ?_ ?_ <;> (intros; subst_vars; rfl)))
    | fail
  · refine HoldP.go ?_
    rw [specJ_pad _ _ _ (by omega) (by omega)]
    have l2 := specL_len a.coef b.coef c (i := i) (by omega)
    repeat' first
      | ((refine sw_goTW kp165 16 (id := 7) (by kernel_rfl) fun K hK => ?_))
      | exact Bool.noConfusion h
      | refine sw_seq ?_
      | refine sw_block ?_
      | refine sw_skip ?_
      | refine sw_inBlock ?_
      | refine sw_go 0 kp165 fun K hK => ?_
      | refine sw_goT 0 kp165 10 (id := 1) (by kernel_rfl) fun K hK => ?_
      | refine sw_goT 0 kp165 4 (id := 13) (by kernel_rfl) fun K hK => ?_
      | refine fun (K : List Oper → LS → Prop) (hK : KOk S 0 _ _ _ K) => ?_
      | refine sw_goD kp165 (by kernel_rfl) fun K hK => ?_
      | ((first | refine runL_go ?_ | refine runQ_go ?_); simp (disch := (refine Om.mk ?_; omega)) only [go_sem])
      | (refine hK.nil ?_; clear hK K; simp only [go_sem])
      | (refine sw_cond rfl (fun h => ?_) (fun h => ?_) <;> (try simp (disch := (refine Om.mk ?_; omega)) only [go_sem] at h))
      | (refine sw_exit rfl ?_)
      | (refine sw_loopEnd ?_)
      | ((first | refine sw_ret (ret0 ?_) | refine sw_ret ?_); simp (disch := (refine Om.mk ?_; omega)) only [go_sem, Tryz.results165])
      | (with_reducible refine And.intro (by first | omega | (simp only [List.length_append, List.length_take, List.length_drop, List.length_cons, List.length_nil, List.length_map]; omega)) ?_)
      | ((with_reducible refine And.intro ?_ ?_); · first | (intro x hx; subst hx; rfl) | exact upR_mem fun _ _ => rfl | exact mapR_mem fun _ _ => rfl | (intro x; refine And.intro ?_ ?_ <;> (intros; subst_vars; rfl)))
      | fail
    refine LopsW.storeOwnL [(2, .int .i64 c), (4, .box 4 0), (6, .box 6 0), (8, .box 8 0), (9, .int .i64 i)] [(3, [.int .i64 a.const, .sl (.lab [1]) (a.coef.map (.int .i64))]), (4, [.int .i64 b.const, .sl (.lab [1]) (b.coef.map (.int .i64))]), (6, [.int .i64 0, .sl .nil []]), (8, [.int .i64 (a.const + c * b.const), .sl (.own 22000 2 1) (((specL a.coef b.coef c i).set i ((specL a.coef b.coef c i).getD i default + c * b.coef.getD i default)).map (.int .i64))])] hOff.1 rfl rfl rfl rfl rfl rfl rfl (fun _ => rfl) (by simp) ⟨by omega, by omega⟩ (by simp only [Nat.reduceLT]) ⟨⟨by decide, _, rfl, sto_plain rfl⟩, ⟨by decide, _, rfl, sto_plain rfl⟩, ⟨by decide, _, rfl, sto_plain rfl⟩, ⟨by decide, _, rfl, sto_plain rfl⟩, ⟨by decide, _, rfl, sto_plain rfl⟩, trivial⟩ ⟨⟨_, rfl, sto_plain rfl, sto_lab _ _ _, trivial⟩, ⟨_, rfl, sto_plain rfl, sto_lab _ _ _, trivial⟩, ⟨_, rfl, sto_plain rfl, sto_plain rfl, trivial⟩, ⟨_, rfl, sto_plain rfl, sto_own, trivial⟩, trivial⟩ ?_
    refine LopsW.nil ?_
    rw [specL_set]
    simp only [go_sem]
    repeat' first
      | exact Bool.noConfusion h
      | refine sw_seq ?_
      | refine sw_block ?_
      | refine sw_skip ?_
      | refine sw_inBlock ?_
      | refine sw_go 0 kp165 fun K hK => ?_
      | refine sw_goT 0 kp165 10 (id := 1) (by kernel_rfl) fun K hK => ?_
      | refine sw_goT 0 kp165 17 (id := 7) (by kernel_rfl) fun K hK => ?_
      | refine sw_goT 0 kp165 4 (id := 13) (by kernel_rfl) fun K hK => ?_
      | refine fun (K : List Oper → LS → Prop) (hK : KOk S 0 _ _ _ K) => ?_
      | refine sw_goD kp165 (by kernel_rfl) fun K hK => ?_
      | ((first | refine runL_go ?_ | refine runQ_go ?_); simp (disch := (refine Om.mk ?_; omega)) only [go_sem])
      | (refine hK.nil ?_; clear hK K; simp only [go_sem])
      | (refine sw_cond rfl (fun h => ?_) (fun h => ?_) <;> (try simp (disch := (refine Om.mk ?_; omega)) only [go_sem] at h))
      | (refine sw_exit rfl ?_)
      | (refine sw_loopEnd ?_)
      | ((first | refine sw_ret (ret0 ?_) | refine sw_ret ?_); simp (disch := (refine Om.mk ?_; omega)) only [go_sem, Tryz.results165])
      | (with_reducible refine And.intro (by first | omega | (simp only [List.length_append, List.length_take, List.length_drop, List.length_cons, List.length_nil, List.length_map]; omega)) ?_)
      | ((with_reducible refine And.intro ?_ ?_); · first | (intro x hx; subst hx; rfl) | exact upR_mem fun _ _ => rfl | exact mapR_mem fun _ _ => rfl | (intro x; refine And.intro ?_ ?_ <;> (intros; subst_vars; rfl)))
      | fail
    exact ⟨i + 1, (by (refine covers_mk0 rfl rfl ?_ ?_ ?_ ?_ <;> simp (disch := (refine Om.mk ?_; omega)) only [go_sem] <;> (try omega))), by omega, by omega⟩
  · refine HoldP.go ?_
    rw [specJ_stay _ _ _ (by omega)]
    have l2 := specL_len a.coef b.coef c (i := i) (by omega)
    repeat' first
      | ((refine sw_goTW kp165 16 (id := 7) (by kernel_rfl) fun K hK => ?_))
      | exact Bool.noConfusion h
      | refine sw_seq ?_
      | refine sw_block ?_
      | refine sw_skip ?_
      | refine sw_inBlock ?_
      | refine sw_go 0 kp165 fun K hK => ?_
      | refine sw_goT 0 kp165 10 (id := 1) (by kernel_rfl) fun K hK => ?_
      | refine sw_goT 0 kp165 4 (id := 13) (by kernel_rfl) fun K hK => ?_
      | refine fun (K : List Oper → LS → Prop) (hK : KOk S 0 _ _ _ K) => ?_
      | refine sw_goD kp165 (by kernel_rfl) fun K hK => ?_
      | ((first | refine runL_go ?_ | refine runQ_go ?_); simp (disch := (refine Om.mk ?_; omega)) only [go_sem])
      | (refine hK.nil ?_; clear hK K; simp only [go_sem])
      | (refine sw_cond rfl (fun h => ?_) (fun h => ?_) <;> (try simp (disch := (refine Om.mk ?_; omega)) only [go_sem] at h))
      | (refine sw_exit rfl ?_)
      | (refine sw_loopEnd ?_)
      | ((first | refine sw_ret (ret0 ?_) | refine sw_ret ?_); simp (disch := (refine Om.mk ?_; omega)) only [go_sem, Tryz.results165])
      | (with_reducible refine And.intro (by first | omega | (simp only [List.length_append, List.length_take, List.length_drop, List.length_cons, List.length_nil, List.length_map]; omega)) ?_)
      | ((with_reducible refine And.intro ?_ ?_); · first | (intro x hx; subst hx; rfl) | exact upR_mem fun _ _ => rfl | exact mapR_mem fun _ _ => rfl | (intro x; refine And.intro ?_ ?_ <;> (intros; subst_vars; rfl)))
      | fail
    refine LopsW.storeOwnL [(2, .int .i64 c), (4, .box 4 0), (6, .box 6 0), (8, .box 8 0), (9, .int .i64 i)] [(3, [.int .i64 a.const, .sl (.lab [1]) (a.coef.map (.int .i64))]), (4, [.int .i64 b.const, .sl (.lab [1]) (b.coef.map (.int .i64))]), (6, [.int .i64 0, .sl .nil []]), (8, [.int .i64 (a.const + c * b.const), .sl (.own 22000 2 1) (((specL a.coef b.coef c i).set i ((specL a.coef b.coef c i).getD i default + c * b.coef.getD i default)).map (.int .i64))])] hOff.1 rfl rfl rfl rfl rfl rfl rfl (fun _ => rfl) (by simp) ⟨by omega, by omega⟩ (by simp only [Nat.reduceLT]) ⟨⟨by decide, _, rfl, sto_plain rfl⟩, ⟨by decide, _, rfl, sto_plain rfl⟩, ⟨by decide, _, rfl, sto_plain rfl⟩, ⟨by decide, _, rfl, sto_plain rfl⟩, ⟨by decide, _, rfl, sto_plain rfl⟩, trivial⟩ ⟨⟨_, rfl, sto_plain rfl, sto_lab _ _ _, trivial⟩, ⟨_, rfl, sto_plain rfl, sto_lab _ _ _, trivial⟩, ⟨_, rfl, sto_plain rfl, sto_plain rfl, trivial⟩, ⟨_, rfl, sto_plain rfl, sto_own, trivial⟩, trivial⟩ ?_
    refine LopsW.nil ?_
    rw [specL_set]
    simp only [go_sem]
    repeat' first
      | exact Bool.noConfusion h
      | refine sw_seq ?_
      | refine sw_block ?_
      | refine sw_skip ?_
      | refine sw_inBlock ?_
      | refine sw_go 0 kp165 fun K hK => ?_
      | refine sw_goT 0 kp165 10 (id := 1) (by kernel_rfl) fun K hK => ?_
      | refine sw_goT 0 kp165 17 (id := 7) (by kernel_rfl) fun K hK => ?_
      | refine sw_goT 0 kp165 4 (id := 13) (by kernel_rfl) fun K hK => ?_
      | refine fun (K : List Oper → LS → Prop) (hK : KOk S 0 _ _ _ K) => ?_
      | refine sw_goD kp165 (by kernel_rfl) fun K hK => ?_
      | ((first | refine runL_go ?_ | refine runQ_go ?_); simp (disch := (refine Om.mk ?_; omega)) only [go_sem])
      | (refine hK.nil ?_; clear hK K; simp only [go_sem])
      | (refine sw_cond rfl (fun h => ?_) (fun h => ?_) <;> (try simp (disch := (refine Om.mk ?_; omega)) only [go_sem] at h))
      | (refine sw_exit rfl ?_)
      | (refine sw_loopEnd ?_)
      | ((first | refine sw_ret (ret0 ?_) | refine sw_ret ?_); simp (disch := (refine Om.mk ?_; omega)) only [go_sem, Tryz.results165])
      | (with_reducible refine And.intro (by first | omega | (simp only [List.length_append, List.length_take, List.length_drop, List.length_cons, List.length_nil, List.length_map]; omega)) ?_)
      | ((with_reducible refine And.intro ?_ ?_); · first | (intro x hx; subst hx; rfl) | exact upR_mem fun _ _ => rfl | exact mapR_mem fun _ _ => rfl | (intro x; refine And.intro ?_ ?_ <;> (intros; subst_vars; rfl)))
      | fail
    exact ⟨i + 1, (by (refine covers_mk0 rfl rfl ?_ ?_ ?_ ?_ <;> simp (disch := (refine Om.mk ?_; omega)) only [go_sem] <;> (try omega))), by omega, by omega⟩
  · rw [show i = b.coef.length by omega, specJ_end]
    have hlz : (addJ a.coef b.coef c b.coef.length).length ≤ 24 := by rw [addJ_len]; omega
    have hcoef : (addF a b c).coef = addJ a.coef b.coef c b.coef.length := rfl
    have hconst : (addF a b c).const = a.const + c * b.const := rfl
    generalize hz : addJ a.coef b.coef c b.coef.length = zs at *
    refine sw_loopT (ι := Nat) (fun i => [(10, .int .i64 i)]) (fun _ => []) (fun _ => [22000]) (fun i => i ≤ zs.length ∧ ∀ j < i, zs.getD j default ≤ MF) (fun i => zs.length - i) 0 (by (refine covers_mk0 rfl rfl ?_ ?_ ?_ ?_ <;> simp (disch := (refine Om.mk ?_; omega)) only [go_sem] <;> (try omega))) ⟨by omega, fun j hj => absurd hj (by omega)⟩ (fun i hi => ?_)
    obtain ⟨hi, hj⟩ := hi
    simp only [go_sem]
    repeat' first
      | ((refine sw_hold (id := 13) ?_))
      | exact Bool.noConfusion h
      | refine sw_seq ?_
      | refine sw_block ?_
      | refine sw_skip ?_
      | refine sw_inBlock ?_
      | refine sw_go 0 kp165 fun K hK => ?_
      | refine sw_goT 0 kp165 10 (id := 1) (by kernel_rfl) fun K hK => ?_
      | refine sw_goT 0 kp165 17 (id := 7) (by kernel_rfl) fun K hK => ?_
      | refine sw_goT 0 kp165 4 (id := 13) (by kernel_rfl) fun K hK => ?_
      | refine fun (K : List Oper → LS → Prop) (hK : KOk S 0 _ _ _ K) => ?_
      | refine sw_goD kp165 (by kernel_rfl) fun K hK => ?_
      | ((first | refine runL_go ?_ | refine runQ_go ?_); simp (disch := (refine Om.mk ?_; omega)) only [go_sem])
      | (refine hK.nil ?_; clear hK K; simp only [go_sem])
      | (refine sw_cond rfl (fun h => ?_) (fun h => ?_) <;> (try simp (disch := (refine Om.mk ?_; omega)) only [go_sem] at h))
      | (refine sw_exit rfl ?_)
      | (refine sw_loopEnd ?_)
      | ((first | refine sw_ret (ret0 ?_) | refine sw_ret ?_); simp (disch := (refine Om.mk ?_; omega)) only [go_sem, Tryz.results165])
      | (with_reducible refine And.intro (by first | omega | (simp only [List.length_append, List.length_take, List.length_drop, List.length_cons, List.length_nil, List.length_map]; omega)) ?_)
      | ((with_reducible refine And.intro ?_ ?_); · first | (intro x hx; subst hx; rfl) | exact upR_mem fun _ _ => rfl | exact mapR_mem fun _ _ => rfl | (intro x; refine And.intro ?_ ?_ <;> (intros; subst_vars; rfl)))
      | fail
    · have hn : ¬ ∀ x ∈ (addF a b c).coef, x ≤ MF := fun hall => absurd (hall _ (by rw [hcoef]; exact getD_mem zs i (by omega))) (by simp only [MF]; omega)
      rw [addR_no hn]
      exact ⟨⟨rfl, rfl⟩, rfl⟩
    · exact ⟨i + 1, (by (refine covers_mk0 rfl rfl ?_ ?_ ?_ ?_ <;> simp (disch := (refine Om.mk ?_; omega)) only [go_sem] <;> (try omega))), ⟨by omega, upto_succ hj (by simp only [MF]; omega)⟩, by omega⟩
    · refine HoldP.go ?_
      refine sw_any (id := 13) kp165 [(false, []), (false, []), (false, [1]), (false, [2]), (false, [0, 0]), (false, [3, 4, 0, 1, 2, 3, 4])] ⟨75, [(6, .box 6 0), (7, .bool (decide (a.const + c * b.const ≤ 1000000000000)))], [(6, [.int .i64 (a.const + c * b.const), .sl (.own 22000 2 1) (zs.map (.int .i64))])], [], [22000], []⟩ (by kernel_rfl) ?_ ?_; simp only [List.length_cons, List.length_nil, Nat.reduceAdd]
      repeat' first
        | ((refine anyB_unf ?_; simp only [stepF_n, stepF_c, goR_n, goR_c, exR_n, exR_c, memB_n, memB_c, subB_n, subB_c, moveY_m, cond_t, cond_f, true_and, and_true, Bool.not_false, Bool.not_true, Bool.and_true, Bool.and_false, Bool.true_and, Bool.false_and, Bool.or_false, Bool.false_or, Bool.true_or, Bool.or_true, Nat.reduceBEq, Nat.reduceAdd]))
        | ((refine anyB_move (by simp only [Nat.reduceLT]) rfl (by simp only [go_sem]; exact rfl) ?_))
        | ((refine hK.nil (anyB_id ?_); clear hK K))
        | ((refine lops_and ?_ ?_))
        | ((refine lops_go 0 ?_; refine fun (K : List Oper → LS → Prop) (hK : KOk S 0 _ _ _ K) => ?_; simp (disch := (refine Om.mk ?_; omega)) only [go_sem]))
        | ((refine anyB_end ?_; simp (disch := (refine Om.mk ?_; omega)) only [go_sem]; (refine covers_mk0 rfl rfl ?_ ?_ ?_ ?_ <;> simp (disch := (refine Om.mk ?_; omega)) only [go_sem] <;> (try omega)); done))
        | exact Bool.noConfusion h
        | refine sw_seq ?_
        | refine sw_block ?_
        | refine sw_skip ?_
        | refine sw_inBlock ?_
        | refine sw_go 0 kp165 fun K hK => ?_
        | refine sw_goT 0 kp165 10 (id := 1) (by kernel_rfl) fun K hK => ?_
        | refine sw_goT 0 kp165 17 (id := 7) (by kernel_rfl) fun K hK => ?_
        | refine sw_goT 0 kp165 4 (id := 13) (by kernel_rfl) fun K hK => ?_
        | refine fun (K : List Oper → LS → Prop) (hK : KOk S 0 _ _ _ K) => ?_
        | refine sw_goD kp165 (by kernel_rfl) fun K hK => ?_
        | ((first | refine runL_go ?_ | refine runQ_go ?_); simp (disch := (refine Om.mk ?_; omega)) only [go_sem])
        | (refine hK.nil ?_; clear hK K; simp only [go_sem])
        | (refine sw_cond rfl (fun h => ?_) (fun h => ?_) <;> (try simp (disch := (refine Om.mk ?_; omega)) only [go_sem] at h))
        | (refine sw_exit rfl ?_)
        | (refine sw_loopEnd ?_)
        | ((first | refine sw_ret (ret0 ?_) | refine sw_ret ?_); simp (disch := (refine Om.mk ?_; omega)) only [go_sem, Tryz.results165])
        | (with_reducible refine And.intro (by first | omega | (simp only [List.length_append, List.length_take, List.length_drop, List.length_cons, List.length_nil, List.length_map]; omega)) ?_)
        | ((with_reducible refine And.intro ?_ ?_); · first | (intro x hx; subst hx; rfl) | exact upR_mem fun _ _ => rfl | exact mapR_mem fun _ _ => rfl | (intro x; refine And.intro ?_ ?_ <;> (intros; subst_vars; rfl)))
        | fail
      have hy : ∀ x ∈ (addF a b c).coef, x ≤ MF := by rw [hcoef]; exact all_getD (P := fun x => x ≤ MF) fun j hj' => hj j (by omega)
      rw [addR_yes hy]
      refine ⟨⟨hconst.symm, hcoef.symm⟩, ?_⟩
      rw [hconst]
      by_cases h1 : a.const + c * b.const ≤ MF
      · rw [tst_true h1]; simpa [MF] using h1
      · rw [tst_false h1]; simpa [MF] using h1
theorem l15Add_fc (a b : PolyT) (c : Int) (ha : GoodB (100 * MF) a) (hb : GoodB MF b) (hc : 0 ≤ c ∧ c ≤ 9) : FC S 165 [] [] [] [PolyD a, PolyD b, .int .i64 c] (.tup [PolyD (addR a b c).1, .bool (addR a b c).2]) [] [] := by
  refine fc_old [1] (by simp) ?_ ?_ ?_
  · simp [PolyD, D.okLb, D.okLbL, okLbL_map (f := fun x => D.int .i64 x) fun _ => rfl]
  · simp [PolyD, D.noLb, D.noLbL, noLbL_map (f := fun x => D.int .i64 x) fun _ => rfl]
  · simp only [PolyD, D.lbL, D.lb, lbL_ints]
    exact l15AddL_fc a b c ha hb hc
end Go.Proofs.YtpfeecgbiikpaaaGreat
