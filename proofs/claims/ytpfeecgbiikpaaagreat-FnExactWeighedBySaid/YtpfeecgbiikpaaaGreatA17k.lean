/-
  Dependency pairs and their weighing: the program's side.
-/
import Derived.Test.YtpfeecgbiikpaaaGreatA17q
import Derived.Test.YtpfeecgbiikpaaaGreatA25
import Derived.Test.YtpfeecgbiikpaaaGreatA06e
namespace Go.Proofs.YtpfeecgbiikpaaaGreat
open Go Go.Lg
set_option linter.unusedSimpArgs false
set_option linter.unusedVariables false
set_option maxHeartbeats 4000000
attribute [local irreducible] SW runL runQ runG runQG FC Ret1 toF redoL anyB addJ sumF formM
def kp48 : List (Nat × List Nat) := [(0, [0, 1]), (1, [0, 1, 7, 8, 9]), (2, [0, 1, 7, 8, 9, 10]), (3, [0, 1, 5, 6, 7, 8, 9]), (4, [0, 1, 7, 8, 9, 33]), (5, [4]), (6, [0, 1, 7, 8, 9]), (7, [4])]
attribute [go_sem] kp48
theorem setOk_fc (set : List Int) (n : Nat) (hn : n ≤ 1000) : FC S 48 [] [] [] [.sl .any (set.map (.int .i64)), .int .i64 n] (.bool (tst (SetP set n))) [] [] := by
  refine fc_body Tryz.func48 rfl (by kernel_rfl) (by simp [Tryz.f48]) fun B => ?_
  simp only [Tryz.ntmps48, enumD, List.map_nil, List.map_cons, List.length_map, Nat.zero_add, Nat.reduceAdd]
  refine sw_bnd 0 rfl fun hb0 => ?_
  simp only [D.bnd, List.length_map] at hb0
  repeat' first
    | exact Bool.noConfusion h
    | refine sw_seq ?_
    | refine sw_block ?_
    | refine sw_skip ?_
    | refine sw_inBlock ?_
    | refine sw_go 0 kp48 fun K hK => ?_
    | refine fun (K : List Oper → LS → Prop) (hK : KOk S 0 _ _ _ K) => ?_
    | ((first | refine runL_go ?_ | refine runQ_go ?_); simp (disch := (refine Om.mk ?_; omega)) only [go_sem])
    | (refine hK.nil ?_; clear hK K; simp only [go_sem])
    | (refine runG_fork rfl rfl rfl rfl rfl (fun h => ?_) (fun h => ?_) <;> (try simp (disch := (refine Om.mk ?_; omega)) only [go_sem] at h))
    | (refine hK.skip rfl (by simp only [dstOk, Nat.reduceLT]) ?_)
    | (refine sw_cond rfl (fun h => ?_) (fun h => ?_) <;> (try simp (disch := (refine Om.mk ?_; omega)) only [go_sem] at h))
    | (refine sw_exit rfl ?_)
    | (refine sw_loopEnd ?_)
    | ((first | refine sw_ret (ret0 ?_) | refine sw_ret ?_); simp (disch := (refine Om.mk ?_; omega)) only [go_sem, Tryz.results48])
    | (refine hK.fork rfl rfl rfl (fun h => ?_) (fun h => ?_) <;> (try simp (disch := (refine Om.mk ?_; omega)) only [go_sem] at h))
    | (with_reducible refine And.intro (by first | omega | (simp only [List.length_append, List.length_take, List.length_drop, List.length_cons, List.length_nil, List.length_map]; omega)) ?_)
    | ((with_reducible refine And.intro ?_ ?_); · first | (intro x hx; subst hx; rfl) | exact upR_mem fun _ _ => rfl | exact mapR_mem fun _ _ => rfl | (intro x; refine And.intro ?_ ?_ <;> (intros; subst_vars; rfl)))
    | fail
  refine sw_loopU (ι := Nat) (fun p => [(9, .int .i64 p)]) (fun p => []) (fun p => p ≤ set.length ∧ ∀ j < p, (0 ≤ set.getD j default ∧ set.getD j default < n) ∧ (0 < j → set.getD (j - 1) default < set.getD j default)) (fun p => set.length - p) 0 (by (refine covers_mk0 rfl rfl ?_ ?_ ?_ ?_ <;> simp (disch := (refine Om.mk ?_; omega)) only [go_sem] <;> (try omega))) ?_ (fun p hp => ?_)
  rotate_left
  simp only [go_sem]
  obtain ⟨hp, hj⟩ := hp
  repeat' first
    | exact Bool.noConfusion h
    | refine sw_seq ?_
    | refine sw_block ?_
    | refine sw_skip ?_
    | refine sw_inBlock ?_
    | refine sw_go 0 kp48 fun K hK => ?_
    | refine fun (K : List Oper → LS → Prop) (hK : KOk S 0 _ _ _ K) => ?_
    | ((first | refine runL_go ?_ | refine runQ_go ?_); simp (disch := (refine Om.mk ?_; omega)) only [go_sem])
    | (refine hK.nil ?_; clear hK K; simp only [go_sem])
    | (refine runG_fork rfl rfl rfl rfl rfl (fun h => ?_) (fun h => ?_) <;> (try simp (disch := (refine Om.mk ?_; omega)) only [go_sem] at h))
    | (refine hK.skip rfl (by simp only [dstOk, Nat.reduceLT]) ?_)
    | (refine sw_cond rfl (fun h => ?_) (fun h => ?_) <;> (try simp (disch := (refine Om.mk ?_; omega)) only [go_sem] at h))
    | (refine sw_exit rfl ?_)
    | (refine sw_loopEnd ?_)
    | ((first | refine sw_ret (ret0 ?_) | refine sw_ret ?_); simp (disch := (refine Om.mk ?_; omega)) only [go_sem, Tryz.results48])
    | (refine hK.fork rfl rfl rfl (fun h => ?_) (fun h => ?_) <;> (try simp (disch := (refine Om.mk ?_; omega)) only [go_sem] at h))
    | (with_reducible refine And.intro (by first | omega | (simp only [List.length_append, List.length_take, List.length_drop, List.length_cons, List.length_nil, List.length_map]; omega)) ?_)
    | ((with_reducible refine And.intro ?_ ?_); · first | (intro x hx; subst hx; rfl) | exact upR_mem fun _ _ => rfl | exact mapR_mem fun _ _ => rfl | (intro x; refine And.intro ?_ ?_ <;> (intros; subst_vars; rfl)))
    | fail
  all_goals first | exact fun hS => absurd (hS p (by omega)) (by omega) | exact fun j hj' => hj j (by omega) | exact ⟨p + 1, (by (refine covers_mk0 rfl rfl ?_ ?_ ?_ ?_ <;> simp (disch := (refine Om.mk ?_; omega)) only [go_sem] <;> (try omega))), ⟨by omega, upto_succ hj (by omega)⟩, by omega⟩ | exact fun j hj' => absurd hj' (by omega) | skip
def kp49 : List (Nat × List Nat) := [(0, [1, 2]), (1, [1, 2, 5]), (2, [4])]
attribute [go_sem] kp49
theorem implMarkedOk_fc (rs : List Int) (ps : List PolyT) (hn : rs.length ≤ 1000) : FC S 49 [] [] [] [.agg [.sl .any (rs.map (.int .i64))], .sl .any (ps.map PolyD)] (.bool (tst (MarkedP rs ps))) [] [] := by
  refine fc_body Tryz.func49 rfl (by kernel_rfl) (by simp [Tryz.f49]) fun B => ?_
  simp only [Tryz.ntmps49, enumD, List.map_nil, List.map_cons, List.length_map, Nat.zero_add, Nat.reduceAdd]
  refine sw_bnd_agg 0 0 rfl rfl fun hb0_0 => ?_
  simp only [D.bnd, List.length_map] at hb0_0
  refine sw_bnd 1 rfl fun hb1 => ?_
  simp only [D.bnd, List.length_map] at hb1
  repeat' first
    | exact Bool.noConfusion h
    | refine sw_seq ?_
    | refine sw_block ?_
    | refine sw_skip ?_
    | refine sw_inBlock ?_
    | refine sw_go 0 kp49 fun K hK => ?_
    | refine fun (K : List Oper → LS → Prop) (hK : KOk S 0 _ _ _ K) => ?_
    | refine sw_goD kp49 (by kernel_rfl) fun K hK => ?_
    | ((first | refine runL_go ?_ | refine runQ_go ?_); simp (disch := (refine Om.mk ?_; omega)) only [go_sem])
    | (refine hK.nil ?_; clear hK K; simp only [go_sem])
    | (refine runG_fork rfl rfl rfl rfl rfl (fun h => ?_) (fun h => ?_) <;> (try simp (disch := (refine Om.mk ?_; omega)) only [go_sem] at h))
    | (refine runQG_fork rfl rfl rfl rfl rfl (fun h => ?_) (fun h => ?_) <;> (try simp (disch := (refine Om.mk ?_; omega)) only [go_sem] at h))
    | (refine hK.skip rfl (by simp only [dstOk, Nat.reduceLT]) ?_)
    | (refine sw_cond rfl (fun h => ?_) (fun h => ?_) <;> (try simp (disch := (refine Om.mk ?_; omega)) only [go_sem] at h))
    | (refine sw_exit rfl ?_)
    | (refine sw_loopEnd ?_)
    | ((first | refine sw_ret (ret0 ?_) | refine sw_ret ?_); simp (disch := (refine Om.mk ?_; omega)) only [go_sem, Tryz.results49])
    | refine hK.call rfl rfl rfl (implPolysOk_fc rs (ps.take rs.length)) ⟨(by intro p hp; cases hp), rfl, rfl, (by simp only [dstOk, Nat.reduceLT])⟩ ?_
    | refine hK.call rfl rfl rfl (implPolysOk_fc rs (ps.drop rs.length)) ⟨(by intro p hp; cases hp), rfl, rfl, (by simp only [dstOk, Nat.reduceLT])⟩ ?_
    | (refine hK.fork rfl rfl rfl (fun h => ?_) (fun h => ?_) <;> (try simp (disch := (refine Om.mk ?_; omega)) only [go_sem] at h))
    | (with_reducible refine And.intro (by first | omega | (simp only [List.length_append, List.length_take, List.length_drop, List.length_cons, List.length_nil, List.length_map]; omega)) ?_)
    | ((with_reducible refine And.intro ?_ ?_); · first | (intro x hx; subst hx; rfl) | exact upR_mem fun _ _ => rfl | exact mapR_mem fun _ _ => rfl | (intro x; refine And.intro ?_ ?_ <;> (intros; subst_vars; rfl)))
    | fail
  all_goals first | exact fun hm => absurd hm.1 (by omega) | exact fun hm => absurd hm.2.1 (by assumption) | exact fun hm => absurd hm.2.2 (by assumption) | exact ⟨by omega, by assumption, by assumption⟩ | exact ⟨fun h => ⟨by omega, by assumption, h⟩, fun h => h.2.2⟩ | skip
theorem MarkedP.ps {rs : List Int} {ps : List PolyT} (h : MarkedP rs ps) : PsOk rs ps := by
  refine ⟨⟨h.2.1.1.1, by have := h.1; omega⟩, fun f hf => ?_⟩
  have h1 := h.2.1.2 f (by rw [h.2.1.1.2]; exact hf)
  rwa [List.getD_eq_getElem?_getD (l := ps.take _), List.getElem?_take, if_pos hf, ← List.getD_eq_getElem?_getD] at h1
theorem form_take {rs : List Int} {ps : List PolyT} : ∀ f t, TermOkP rs t → formM rs (ps.take rs.length) f t = formM rs ps f t
  | 0, _, _ => by unfold formM; rfl
  | f + 1, t, ht => by
    have hl := ht.low (show 0 < t.length from ht.2.1.1)
    by_cases h : t.getD 0 default < 0
    · rw [formM_var h, formM_var h]
    · rw [formM_app h, formM_app h]
      have e : (ps.take rs.length).getD (t.getD 0 default).toNat default = ps.getD (t.getD 0 default).toNat default := by
        rw [List.getD_eq_getElem?_getD, List.getElem?_take, if_pos (by have := hl.1.2; omega), ← List.getD_eq_getElem?_getD]
      rw [e]
      exact appF1_congr (fun j hj => by show (formM rs (ps.take rs.length) f (argU rs t j)).1 = (formM rs ps f (argU rs t j)).1; rw [form_take f _ (argU_ok ht hj).1]) fun j hj => by show (formM rs (ps.take rs.length) f (argU rs t j)).2 = (formM rs ps f (argU rs t j)).2; rw [form_take f _ (argU_ok ht hj).1]
theorem headM_eq {rs : List Int} {ps : List PolyT} {t : List Int} (ht : TermOkP rs t) : headM rs ps rs.length 60 t = headR rs ps t := by
  by_cases h : t.getD 0 default < 0
  · rw [headM_var h, headR_var h]
  · rw [headM_app h, headR_app h, Int.add_comm]
    exact appF1_congr (fun j hj => by show (formM rs ps 60 (argU rs t j)).1 = (formM rs (ps.take rs.length) 60 (argU rs t j)).1; rw [form_take 60 _ (argU_ok ht hj).1]) fun j hj => by show (formM rs ps 60 (argU rs t j)).2 = (formM rs (ps.take rs.length) 60 (argU rs t j)).2; rw [form_take 60 _ (argU_ok ht hj).1]
def kp152 : List (Nat × List Nat) := [(0, [1, 2, 3, 6]), (1, [6, 7])]
attribute [go_sem] kp152
theorem headForm_fc (rs : List Int) (ps : List PolyT) (t : List Int) (hM : MarkedP rs ps) (hT : TermOkP rs t) : FC S 152 [] [] [] [.agg [.sl .any (rs.map (.int .i64))], .sl .any (ps.map PolyD), .sl .any (t.map (.int .i64))] (.tup [PolyD (headR rs ps t).1, .bool (headR rs ps t).2]) [] [] := by
  have hl := hT.low (show 0 < t.length from hT.2.1.1)
  have hs := hM.ps.1.1.1
  have hm := hM.1
  have c := markedForm_fc rs ps t hT hM.ps rs.length (by omega) 60 0 hT.2.1.1 (fun h => ⟨by omega, by rw [Int.add_comm]; exact marked_at hM h hl.1.2⟩) (fun q h1 h2 h3 => formAt_fc rs ps t hT hM.ps 60 q h2 h3) (by rw [subS_zeroU hT]; have := hT.2.1.2; omega)
  rw [subS_zeroU hT, headM_eq hT] at c
  refine fc_body Tryz.func152 rfl (by kernel_rfl) (by simp [Tryz.f152]) fun B => ?_
  simp only [Tryz.ntmps152, enumD, List.map_nil, List.map_cons, List.length_map, Nat.zero_add, Nat.reduceAdd]
  repeat' first
    | exact Bool.noConfusion h
    | refine sw_seq ?_
    | refine sw_block ?_
    | refine sw_skip ?_
    | refine sw_inBlock ?_
    | refine sw_go 0 kp152 fun K hK => ?_
    | refine fun (K : List Oper → LS → Prop) (hK : KOk S 0 _ _ _ K) => ?_
    | ((first | refine runL_go ?_ | refine runQ_go ?_); simp (disch := (refine Om.mk ?_; omega)) only [go_sem])
    | (refine hK.nil ?_; clear hK K; simp only [go_sem])
    | (refine sw_cond rfl (fun h => ?_) (fun h => ?_) <;> (try simp (disch := (refine Om.mk ?_; omega)) only [go_sem] at h))
    | (refine sw_exit rfl ?_)
    | (refine sw_loopEnd ?_)
    | ((first | refine sw_ret (ret0 ?_) | refine sw_ret ?_); simp (disch := (refine Om.mk ?_; omega)) only [go_sem, Tryz.results152])
    | refine hK.call rfl rfl rfl (c) ⟨(by intro p hp; cases hp), rfl, rfl, (by simp only [dstOk, Nat.reduceLT])⟩ ?_
    | (with_reducible refine And.intro (by first | omega | (simp only [List.length_append, List.length_take, List.length_drop, List.length_cons, List.length_nil, List.length_map]; omega)) ?_)
    | ((with_reducible refine And.intro ?_ ?_); · first | (intro x hx; subst hx; rfl) | exact upR_mem fun _ _ => rfl | exact mapR_mem fun _ _ => rfl | (intro x; refine And.intro ?_ ?_ <;> (intros; subst_vars; rfl)))
    | fail
def kp131 : List (Nat × List Nat) := [(0, [1, 2, 3, 6]), (1, [1, 2, 3, 6, 17]), (2, [6, 7]), (3, [6, 7])]
attribute [go_sem] kp131
theorem implHeadForm_fc (rs : List Int) (ps : List PolyT) (t : List Int) (hM : MarkedP rs ps) (hT : TermOkP rs t) : FC S 131 [] [] [] [.agg [.sl .any (rs.map (.int .i64))], .sl .any (ps.map PolyD), .sl .any (t.map (.int .i64))] (.tup [PolyD (headR rs ps t).1, .bool (headR rs ps t).2]) [] [] := by
  have hs := hT.1.1
  refine fc_body Tryz.func131 rfl (by kernel_rfl) (by simp [Tryz.f131]) fun B => ?_
  simp only [Tryz.ntmps131, enumD, List.map_nil, List.map_cons, List.length_map, Nat.zero_add, Nat.reduceAdd]
  repeat' first
    | ((exact absurd hM (by assumption)))
    | ((exact absurd hT (by assumption)))
    | exact Bool.noConfusion h
    | refine sw_seq ?_
    | refine sw_block ?_
    | refine sw_skip ?_
    | refine sw_inBlock ?_
    | refine sw_go 0 kp131 fun K hK => ?_
    | refine fun (K : List Oper → LS → Prop) (hK : KOk S 0 _ _ _ K) => ?_
    | ((first | refine runL_go ?_ | refine runQ_go ?_); simp (disch := (refine Om.mk ?_; omega)) only [go_sem])
    | (refine hK.nil ?_; clear hK K; simp only [go_sem])
    | (refine runG_fork rfl rfl rfl rfl rfl (fun h => ?_) (fun h => ?_) <;> (try simp (disch := (refine Om.mk ?_; omega)) only [go_sem] at h))
    | (refine hK.skip rfl (by simp only [dstOk, Nat.reduceLT]) ?_)
    | (refine sw_cond rfl (fun h => ?_) (fun h => ?_) <;> (try simp (disch := (refine Om.mk ?_; omega)) only [go_sem] at h))
    | (refine sw_exit rfl ?_)
    | (refine sw_loopEnd ?_)
    | ((first | refine sw_ret (ret0 ?_) | refine sw_ret ?_); simp (disch := (refine Om.mk ?_; omega)) only [go_sem, Tryz.results131])
    | refine hK.call rfl rfl rfl (implMarkedOk_fc _ _ (by omega)) ⟨(by intro p hp; cases hp), rfl, rfl, (by simp only [dstOk, Nat.reduceLT])⟩ ?_
    | refine hK.call rfl rfl rfl (implTermOk_fc _ _ _ _) ⟨(by intro p hp; cases hp), rfl, rfl, (by simp only [dstOk, Nat.reduceLT])⟩ ?_
    | refine hK.call rfl rfl rfl (headForm_fc rs ps t hM hT) ⟨(by intro p hp; cases hp), rfl, rfl, (by simp only [dstOk, Nat.reduceLT])⟩ ?_
    | (refine hK.fork rfl rfl rfl (fun h => ?_) (fun h => ?_) <;> (try simp (disch := (refine Om.mk ?_; omega)) only [go_sem] at h))
    | (with_reducible refine And.intro (by first | omega | (simp only [List.length_append, List.length_take, List.length_drop, List.length_cons, List.length_nil, List.length_map]; omega)) ?_)
    | ((with_reducible refine And.intro ?_ ?_); · first | (intro x hx; subst hx; rfl) | exact upR_mem fun _ _ => rfl | exact mapR_mem fun _ _ => rfl | (intro x; refine And.intro ?_ ?_ <;> (intros; subst_vars; rfl)))
    | fail
open Classical in
noncomputable def cmpP (rs : List Int) (ps : List PolyT) (p : DepPairT) : Bool × Bool := if (headR rs ps p.r).2 = true ∧ (headR rs ps p.l).2 = true then mostR (headR rs ps p.r).1 (headR rs ps p.l).1 else (false, false)
theorem cmpP_less {rs : List Int} {ps : List PolyT} {p : DepPairT} : (cmpP rs ps p).2 = tst (PLess rs ps p) := by
  unfold cmpP PLess
  split
  · rename_i h
    by_cases hm : MostP (headR rs ps p.r).1 (headR rs ps p.l).1
    · rw [mostR_yes hm]
      exact tst_congr ⟨fun e => ⟨h, hm, e⟩, fun e => e.2.2⟩
    · rw [mostR_no hm, tst_false fun e => hm e.2.1]
  · rename_i h
    rw [tst_false fun e => h e.1]
theorem cmpP_most {rs : List Int} {ps : List PolyT} {p : DepPairT} : (cmpP rs ps p).1 = tst (PMost rs ps p) := by
  unfold cmpP PMost
  split
  · rename_i h
    by_cases hm : MostP (headR rs ps p.r).1 (headR rs ps p.l).1
    · rw [mostR_yes hm]
      exact tst_congr ⟨fun e => ⟨h, hm, e⟩, fun e => e.2.2⟩
    · rw [mostR_no hm, tst_false fun e => hm e.2.1]
  · rename_i h
    rw [tst_false fun e => h e.1]
def kp94 : List (Nat × List Nat) := [(0, [1, 3, 5]), (1, [1, 3, 5, 8, 9]), (2, [8, 9, 10, 11]), (3, [8, 10, 33]), (4, [6, 7]), (5, [6, 7])]
attribute [go_sem] kp94
theorem comparePair_fc (rs : List Int) (ps : List PolyT) (p : DepPairT) (hM : MarkedP rs ps) (hp : PrOk rs p) : FC S 94 [] [] [] [.agg [.sl .any (rs.map (.int .i64))], .sl .any (ps.map PolyD), DepPairD p] (.tup [.bool (tst (PMost rs ps p)), .bool (tst (PLess rs ps p))]) [] [] := by
  have c1 := implHeadForm_fc rs ps p.r hM hp.1.2
  have c2 := implHeadForm_fc rs ps p.l hM hp.1.1
  rw [← cmpP_less, ← cmpP_most]
  unfold cmpP
  generalize headR rs ps p.r = a at *
  generalize headR rs ps p.l = b at *
  obtain ⟨a, oa⟩ := a
  obtain ⟨b, ob⟩ := b
  dsimp only at c1 c2 ⊢
  by_cases hnb : oa = true ∧ ob = true
  · rw [if_pos hnb]
    obtain ⟨rfl, rfl⟩ := hnb
    refine fc_body Tryz.func94 rfl (by kernel_rfl) (by simp [Tryz.f94]) fun B => ?_
    simp only [Tryz.ntmps94, enumD, List.map_nil, List.map_cons, List.length_map, Nat.zero_add, Nat.reduceAdd]
    repeat' first
      | ((exact Bool.noConfusion (by assumption)))
      | exact Bool.noConfusion h
      | refine sw_seq ?_
      | refine sw_block ?_
      | refine sw_skip ?_
      | refine sw_inBlock ?_
      | refine sw_go 0 kp94 fun K hK => ?_
      | refine fun (K : List Oper → LS → Prop) (hK : KOk S 0 _ _ _ K) => ?_
      | ((first | refine runL_go ?_ | refine runQ_go ?_); simp (disch := (refine Om.mk ?_; omega)) only [go_sem])
      | (refine hK.nil ?_; clear hK K; simp only [go_sem])
      | (refine runG_fork rfl rfl rfl rfl rfl (fun h => ?_) (fun h => ?_) <;> (try simp (disch := (refine Om.mk ?_; omega)) only [go_sem] at h))
      | (refine hK.skip rfl (by simp only [dstOk, Nat.reduceLT]) ?_)
      | (refine sw_cond rfl (fun h => ?_) (fun h => ?_) <;> (try simp (disch := (refine Om.mk ?_; omega)) only [go_sem] at h))
      | (refine sw_exit rfl ?_)
      | (refine sw_loopEnd ?_)
      | ((first | refine sw_ret (ret0 ?_) | refine sw_ret ?_); simp (disch := (refine Om.mk ?_; omega)) only [go_sem, Tryz.results94])
      | refine hK.call rfl rfl rfl (c1) ⟨(by intro p hp; cases hp), rfl, rfl, (by simp only [dstOk, Nat.reduceLT])⟩ ?_
      | refine hK.call rfl rfl rfl (c2) ⟨(by intro p hp; cases hp), rfl, rfl, (by simp only [dstOk, Nat.reduceLT])⟩ ?_
      | refine hK.call rfl rfl rfl (atMost_fc a b) ⟨(by intro p hp; cases hp), rfl, rfl, (by simp only [dstOk, Nat.reduceLT])⟩ ?_
      | (refine hK.fork rfl rfl rfl (fun h => ?_) (fun h => ?_) <;> (try simp (disch := (refine Om.mk ?_; omega)) only [go_sem] at h))
      | (with_reducible refine And.intro (by first | omega | (simp only [List.length_append, List.length_take, List.length_drop, List.length_cons, List.length_nil, List.length_map]; omega)) ?_)
      | ((with_reducible refine And.intro ?_ ?_); · first | (intro x hx; subst hx; rfl) | exact upR_mem fun _ _ => rfl | exact mapR_mem fun _ _ => rfl | (intro x; refine And.intro ?_ ?_ <;> (intros; subst_vars; rfl)))
      | fail
  · rw [if_neg hnb]
    refine fc_body Tryz.func94 rfl (by kernel_rfl) (by simp [Tryz.f94]) fun B => ?_
    simp only [Tryz.ntmps94, enumD, List.map_nil, List.map_cons, List.length_map, Nat.zero_add, Nat.reduceAdd]
    repeat' first
      | ((exact absurd ⟨(by assumption), (by assumption)⟩ hnb))
      | exact Bool.noConfusion h
      | refine sw_seq ?_
      | refine sw_block ?_
      | refine sw_skip ?_
      | refine sw_inBlock ?_
      | refine sw_go 0 kp94 fun K hK => ?_
      | refine fun (K : List Oper → LS → Prop) (hK : KOk S 0 _ _ _ K) => ?_
      | ((first | refine runL_go ?_ | refine runQ_go ?_); simp (disch := (refine Om.mk ?_; omega)) only [go_sem])
      | (refine hK.nil ?_; clear hK K; simp only [go_sem])
      | (refine runG_fork rfl rfl rfl rfl rfl (fun h => ?_) (fun h => ?_) <;> (try simp (disch := (refine Om.mk ?_; omega)) only [go_sem] at h))
      | (refine hK.skip rfl (by simp only [dstOk, Nat.reduceLT]) ?_)
      | (refine sw_cond rfl (fun h => ?_) (fun h => ?_) <;> (try simp (disch := (refine Om.mk ?_; omega)) only [go_sem] at h))
      | (refine sw_exit rfl ?_)
      | (refine sw_loopEnd ?_)
      | ((first | refine sw_ret (ret0 ?_) | refine sw_ret ?_); simp (disch := (refine Om.mk ?_; omega)) only [go_sem, Tryz.results94])
      | refine hK.call rfl rfl rfl (c1) ⟨(by intro p hp; cases hp), rfl, rfl, (by simp only [dstOk, Nat.reduceLT])⟩ ?_
      | refine hK.call rfl rfl rfl (c2) ⟨(by intro p hp; cases hp), rfl, rfl, (by simp only [dstOk, Nat.reduceLT])⟩ ?_
      | refine hK.call rfl rfl rfl (atMost_fc a b) ⟨(by intro p hp; cases hp), rfl, rfl, (by simp only [dstOk, Nat.reduceLT])⟩ ?_
      | (refine hK.fork rfl rfl rfl (fun h => ?_) (fun h => ?_) <;> (try simp (disch := (refine Om.mk ?_; omega)) only [go_sem] at h))
      | (with_reducible refine And.intro (by first | omega | (simp only [List.length_append, List.length_take, List.length_drop, List.length_cons, List.length_nil, List.length_map]; omega)) ?_)
      | ((with_reducible refine And.intro ?_ ?_); · first | (intro x hx; subst hx; rfl) | exact upR_mem fun _ _ => rfl | exact mapR_mem fun _ _ => rfl | (intro x; refine And.intro ?_ ?_ <;> (intros; subst_vars; rfl)))
      | fail
    all_goals exact absurd ⟨(by assumption), (by assumption)⟩ hnb
end Go.Proofs.YtpfeecgbiikpaaaGreat
