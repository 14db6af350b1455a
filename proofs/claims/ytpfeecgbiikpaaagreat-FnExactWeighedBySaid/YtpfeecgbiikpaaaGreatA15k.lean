/-
  Linear forms of terms: the program's side, the whole.
-/
import Derived.Test.YtpfeecgbiikpaaaGreatA15j
import Derived.Test.YtpfeecgbiikpaaaGreatA04
namespace Go.Proofs.YtpfeecgbiikpaaaGreat
open Go Go.Lg
set_option linter.unusedSimpArgs false
set_option linter.unusedVariables false
set_option maxHeartbeats 4000000
attribute [local irreducible] SW runL runQ runG runQG FC Ret1 toF redoL anyB addJ sumF formM
def PsOk (rs : List Int) (ps : List PolyT) : Prop := (SigOkP rs ∧ rs.length ≤ ps.length) ∧ ∀ f < rs.length, PolyOkP (rs.getD f default) (ps.getD f default)
theorem PolysOkP.ps {rs : List Int} {ps : List PolyT} (h : PolysOkP rs ps) : PsOk rs ps := ⟨⟨h.1.1, Nat.le_of_eq h.1.2.symm⟩, fun f hf => h.2 f (by rw [h.1.2]; exact hf)⟩
theorem PsOk.at {rs : List Int} {ps : List PolyT} (h : PsOk rs ps) {n : Int} (h0 : 0 ≤ n) (h1 : n < rs.length) : PolyOkP (arS rs n) (ps.getD n.toNat default) := by
  rw [arS_sym (by omega)]
  exact h.2 n.toNat (by omega)
theorem form_goodQ {rs : List Int} {ps : List PolyT} (hP : PsOk rs ps) : ∀ f t, TermOkP rs t → GoodB MF (formM rs ps f t).1
  | 0, _, _ => by unfold formM; exact good_zero
  | f + 1, t, ht => by
    have hl := ht.low (show 0 < t.length from ht.2.1.1)
    by_cases h : t.getD 0 default < 0
    · rw [formM_var h]; exact good_var h hl.1.1
    · rw [formM_app h]
      exact good_app (hP.at (by omega) hl.1.2) fun j hj => form_goodQ hP f _ (argU_ok ht hj).1
noncomputable def headM (rs : List Int) (ps : List PolyT) (bh : Int) (f : Nat) (u : List Int) : PolyT × Bool := if u.getD 0 default < 0 then (varF (u.getD 0 default), true) else appF1 (fun j => formM rs ps f (argU rs u j)) (ps.getD (u.getD 0 default + bh).toNat default) (arS rs (u.getD 0 default)).toNat
theorem headM_var {rs : List Int} {ps : List PolyT} {bh : Int} {f : Nat} {u : List Int} (h : u.getD 0 default < 0) : headM rs ps bh f u = (varF (u.getD 0 default), true) := if_pos h
theorem headM_app {rs : List Int} {ps : List PolyT} {bh : Int} {f : Nat} {u : List Int} (h : ¬ u.getD 0 default < 0) : headM rs ps bh f u = appF1 (fun j => formM rs ps f (argU rs u j)) (ps.getD (u.getD 0 default + bh).toNat default) (arS rs (u.getD 0 default)).toNat := if_neg h
theorem headM_zero (rs : List Int) (ps : List PolyT) (f : Nat) (u : List Int) : headM rs ps 0 f u = formM rs ps (f + 1) u := by
  by_cases h : u.getD 0 default < 0
  · rw [headM_var h, formM_var h]
  · rw [headM_app h, formM_app h, Int.add_zero]
theorem sumF_congr {F G : Nat → PolyT × Bool} {p : PolyT} : ∀ n, (∀ j < n, (F j).1 = (G j).1) → sumF F p n = sumF G p n
  | 0, _ => by unfold sumF; rfl
  | n + 1, h => by
    have e : ∀ H : Nat → PolyT × Bool, sumF H p (n + 1) = addF (sumF H p n) (H n).1 (p.coef.getD n default) := fun H => by conv => lhs; unfold sumF
    rw [e, e, sumF_congr n fun j hj => h j (by omega), h n (by omega)]
theorem appF1_congr {F G : Nat → PolyT × Bool} {p : PolyT} {n : Nat} (h1 : ∀ j < n, (F j).1 = (G j).1) (h2 : ∀ j < n, (F j).2 = (G j).2) : appF1 F p n = appF1 G p n := by
  have e := sumF_congr (p := p) n h1
  rcases Classical.em ((∀ j < n, (F j).2 = true) ∧ okF (sumF F p n)) with h | h
  · rw [appF1_yes h, appF1_yes ⟨fun j hj => by rw [← h2 j hj]; exact h.1 j hj, by rw [← e]; exact h.2⟩, e]
  · rw [appF1_no h, appF1_no fun h' => h ⟨fun j hj => by rw [h2 j hj]; exact h'.1 j hj, by rw [e]; exact h'.2⟩]
def kp169 : List (Nat × List Nat) := [(0, [1, 2, 3, 4, 5, 10]), (1, [1, 2, 3, 4, 5, 10, 21]), (2, [10, 11]), (3, [1, 2, 3, 4, 5, 10, 12]), (4, [1, 2, 3, 4, 5, 10, 12, 30, 31, 32]), (5, [1, 2, 3, 4, 5, 10, 12, 30, 31, 32, 33]), (6, [1, 2, 3, 4, 5, 10, 12, 14, 30, 31, 32]), (7, [1, 2, 3, 4, 5, 10, 12, 15, 16, 30, 31, 32]), (8, [1, 2, 3, 4, 5, 10, 12, 15, 30, 31, 32, 45]), (9, [10, 11]), (10, [1, 2, 3, 4, 5, 10, 12, 30, 31, 32]), (11, [1, 2, 3, 4, 5, 10, 12, 30, 31, 32]), (12, [10, 11])]
attribute [go_sem] kp169
theorem markedForm_fc (rs : List Int) (ps : List PolyT) (t : List Int) (hT : TermOkP rs t) (hQ : PsOk rs ps) (bh : Int) (hb : 0 ≤ bh ∧ bh ≤ 1000) (f a : Nat) (ha : a < t.length) (hx : 0 ≤ t.getD a default → t.getD a default + bh < ps.length ∧ PolyOkP (arS rs (t.getD a default)) (ps.getD (t.getD a default + bh).toNat default))
    (hform : ∀ q : Nat, a < q → q < t.length → (subS rs t q).length ≤ f → FC S 151 [] [] [] [.agg [.sl .any (rs.map (.int .i64))], .sl .any (ps.map PolyD), .sl .any (t.map (.int .i64)), .int .i64 q] (.tup [PolyD (formM rs ps f (subS rs t q)).1, .bool (formM rs ps f (subS rs t q)).2]) [] []) (hlen : (subS rs t a).length ≤ f + 1) :
    FC S 169 [] [] [] [.agg [.sl .any (rs.map (.int .i64))], .sl .any (ps.map PolyD), .int .i64 bh, .sl .any (t.map (.int .i64)), .int .i64 a] (.tup [PolyD (headM rs ps bh f (subS rs t a)).1, .bool (headM rs ps bh f (subS rs t a)).2]) [] [] := by
  have hl := hT.2.1.2
  have hlo := hT.low ha
  have hsa := (sub_sub hT ha).1
  have hU := subS_ok hT ha
  have hlt := argsS_lt hT ha
  have hal := argsS_len rs t a
  have hget := argsS_get rs t a
  have hco : ∀ x ∈ argsS rs t a, ((x : Nat) : Int) = x := fun _ _ => rfl
  by_cases h0 : t.getD a default < 0
  · rw [headM_var (by rw [hsa]; exact h0), hsa]
    refine fc_body Tryz.func169 rfl (by kernel_rfl) (by simp [Tryz.f169]) fun B => ?_
    simp only [Tryz.ntmps169, enumD, List.map_nil, List.map_cons, List.length_map, Nat.zero_add, Nat.reduceAdd]
    refine sw_bnd 3 rfl fun hb3 => ?_
    simp only [D.bnd, List.length_map] at hb3
    repeat' first
      | ((exfalso; omega))
      | exact Bool.noConfusion h
      | refine sw_seq ?_
      | refine sw_block ?_
      | refine sw_skip ?_
      | refine sw_inBlock ?_
      | refine sw_go 0 kp169 fun K hK => ?_
      | refine fun (K : List Oper → LS → Prop) (hK : KOk S 0 _ _ _ K) => ?_
      | ((first | refine runL_go ?_ | refine runQ_go ?_); simp (disch := (refine Om.mk ?_; omega)) only [go_sem])
      | (refine hK.nil ?_; clear hK K; simp only [go_sem])
      | (refine sw_cond rfl (fun h => ?_) (fun h => ?_) <;> (try simp (disch := (refine Om.mk ?_; omega)) only [go_sem] at h))
      | (refine sw_exit rfl ?_)
      | (refine sw_loopEnd ?_)
      | ((first | refine sw_ret (ret0 ?_) | refine sw_ret ?_); simp (disch := (refine Om.mk ?_; omega)) only [go_sem, Tryz.results169])
      | refine hK.call rfl rfl rfl (varForm_fc _ h0 hlo.1.1) ⟨(by intro p hp; cases hp), rfl, rfl, (by simp only [dstOk, Nat.reduceLT])⟩ ?_
      | (with_reducible refine And.intro (by first | omega | (simp only [List.length_append, List.length_take, List.length_drop, List.length_cons, List.length_nil, List.length_map]; omega)) ?_)
      | ((with_reducible refine And.intro ?_ ?_); · first | (intro x hx; subst hx; rfl) | exact upR_mem fun _ _ => rfl | exact mapR_mem fun _ _ => rfl | (intro x; refine And.intro ?_ ?_ <;> (intros; subst_vars; rfl)))
      | fail
  · rw [headM_app (by rw [hsa]; exact h0), hsa]
    have hx := hx (by omega)
    have harg : ∀ j < (arS rs (t.getD a default)).toNat, argU rs (subS rs t a) j = subS rs t ((argsS rs t a).getD j default) := fun j hj => by rw [argU_sub hT ha hj, hget j hj]
    generalize hz : argsS rs t a = zs at *
    have hsub : ∀ q ∈ zs, (subS rs t q).length ≤ f := fun q hq => by
      obtain ⟨j, hj, e⟩ := List.getElem_of_mem hq
      have h1 := harg j (by omega)
      have h2 := (argU_ok hU (j := j) (by rw [hsa]; omega)).2
      rw [h1, List.getD_eq_getElem?_getD, List.getElem?_eq_getElem hj, Option.getD_some, e] at h2
      omega
    have hgood : ∀ q ∈ zs, GoodB MF (formM rs ps f (subS rs t q)).1 := fun q hq => form_goodQ hQ f _ (subS_ok hT (hlt q hq).2)
    have hFG : (∀ j < zs.length, (formM rs ps f (subS rs t (zs.getD j default))).2 = true) → appF1 (fun j => ((zs.map fun q => (formM rs ps f (subS rs t q)).1).getD j default, true)) (ps.getD (t.getD a default + bh).toNat default) (zs.map fun q => (formM rs ps f (subS rs t q)).1).length = appF1 (fun j => formM rs ps f (argU rs (subS rs t a) j)) (ps.getD (t.getD a default + bh).toNat default) (arS rs (t.getD a default)).toNat := fun hok => by
      rw [List.length_map, ← hal]
      refine appF1_congr (fun j hj => ?_) fun j hj => ?_
      · dsimp only
        rw [harg j (by omega)]
        simp [List.getD, hj]
      · dsimp only
        rw [harg j (by omega)]
        exact (hok j hj).symm
    have hno : ∀ i < zs.length, (formM rs ps f (subS rs t (zs.getD i default))).2 = false → appF1 (fun j => formM rs ps f (argU rs (subS rs t a) j)) (ps.getD (t.getD a default + bh).toNat default) (arS rs (t.getD a default)).toNat = (zeroF, false) := fun i hi e => appF1_no fun h => by
      have := h.1 i (by omega)
      rw [harg i (by omega), e] at this
      cases this
    have hz3 : zs.length ≤ 3 := by omega
    have cA := applied_fc (ps.getD (t.getD a default + bh).toNat default) (zs.map fun q => (formM rs ps f (subS rs t q)).1) (by rw [List.length_map, hal, show (((arS rs (t.getD a default)).toNat : Nat) : Int) = arS rs (t.getD a default) by omega]; exact hx.2) (by rw [List.length_map]; exact hz3) (fun j hj => by
      rw [List.length_map] at hj
      have := hgood _ (getD_mem zs j hj)
      simpa [List.getD, hj] using this)
    have cG := argsAt_fc .any .any rs t a hT ha
    rw [hz] at cG
    refine fc_body Tryz.func169 rfl (by kernel_rfl) (by simp [Tryz.f169]) fun B => ?_
    simp only [Tryz.ntmps169, enumD, List.map_nil, List.map_cons, List.length_map, Nat.zero_add, Nat.reduceAdd]
    refine sw_bnd 3 rfl fun hb3 => ?_
    simp only [D.bnd, List.length_map] at hb3
    repeat' first
      | ((exfalso; omega))
      | ((refine sw_tok 12 51000 77 2 rfl (.inl rfl) rfl ?_; simp only [go_sem]))
      | exact Bool.noConfusion h
      | refine sw_seq ?_
      | refine sw_block ?_
      | refine sw_skip ?_
      | refine sw_inBlock ?_
      | refine sw_go 0 kp169 fun K hK => ?_
      | refine fun (K : List Oper → LS → Prop) (hK : KOk S 0 _ _ _ K) => ?_
      | ((first | refine runL_go ?_ | refine runQ_go ?_); simp (disch := (refine Om.mk ?_; omega)) only [go_sem])
      | (refine hK.nil ?_; clear hK K; simp only [go_sem])
      | (refine sw_cond rfl (fun h => ?_) (fun h => ?_) <;> (try simp (disch := (refine Om.mk ?_; omega)) only [go_sem] at h))
      | (refine sw_exit rfl ?_)
      | (refine sw_loopEnd ?_)
      | ((first | refine sw_ret (ret0 ?_) | refine sw_ret ?_); simp (disch := (refine Om.mk ?_; omega)) only [go_sem, Tryz.results169])
      | refine hK.call rfl rfl rfl (cG) ⟨(by intro p hp; cases hp), rfl, rfl, (by simp only [dstOk, Nat.reduceLT])⟩ ?_
      | (with_reducible refine And.intro (by first | omega | (simp only [List.length_append, List.length_take, List.length_drop, List.length_cons, List.length_nil, List.length_map]; omega)) ?_)
      | ((with_reducible refine And.intro ?_ ?_); · first | (intro x hx; subst hx; rfl) | exact upR_mem fun _ _ => rfl | exact mapR_mem fun _ _ => rfl | (intro x; refine And.intro ?_ ?_ <;> (intros; subst_vars; rfl)))
      | fail
    refine sw_loopT (ι := Nat) (fun i => [(32, .int .i64 i), (12, .sl (.own 51000 77 2) (((zs.take i).map fun q => (formM rs ps f (subS rs t q)).1).map PolyD))]) (fun _ => []) (fun _ => [51000]) (fun i => i ≤ zs.length ∧ ∀ j < i, (formM rs ps f (subS rs t (zs.getD j default))).2 = true) (fun i => zs.length - i) 0 (by (refine covers_mk0 rfl rfl ?_ ?_ ?_ ?_ <;> simp (disch := (refine Om.mk ?_; omega)) only [go_sem] <;> (try omega)); all_goals first | rfl | (simp; done)) ⟨by omega, fun j hj => absurd hj (by omega)⟩ (fun i hi => ?_)
    obtain ⟨hi, hj⟩ := hi
    simp only [go_sem]
    have htl : ((zs.take i).map fun q => (formM rs ps f (subS rs t q)).1).length ≤ 3 := by rw [List.length_map, List.length_take]; omega
    by_cases hil : i < zs.length
    · have hm := hlt _ (getD_mem zs i hil)
      have cF := hform (zs.getD i default) hm.1 hm.2 (hsub _ (getD_mem zs i hil))
      have htk : (zs.take (i + 1)).map (fun q => (formM rs ps f (subS rs t q)).1) = (zs.take i).map (fun q => (formM rs ps f (subS rs t q)).1) ++ [(formM rs ps f (subS rs t (zs.getD i default))).1] := by
        rw [List.take_succ_eq_append_getElem hil, List.map_append]; congr 1; simp [List.getD, hil]
      repeat' first
        | ((exfalso; omega))
        | exact Bool.noConfusion h
        | refine sw_seq ?_
        | refine sw_block ?_
        | refine sw_skip ?_
        | refine sw_inBlock ?_
        | refine sw_go 0 kp169 fun K hK => ?_
        | refine fun (K : List Oper → LS → Prop) (hK : KOk S 0 _ _ _ K) => ?_
        | ((first | refine runL_go ?_ | refine runQ_go ?_); simp (disch := (refine Om.mk ?_; omega)) only [go_sem])
        | (refine hK.nil ?_; clear hK K; simp only [go_sem])
        | (refine sw_cond rfl (fun h => ?_) (fun h => ?_) <;> (try simp (disch := (refine Om.mk ?_; omega)) only [go_sem] at h))
        | (refine sw_exit rfl ?_)
        | (refine sw_loopEnd ?_)
        | ((first | refine sw_ret (ret0 ?_) | refine sw_ret ?_); simp (disch := (refine Om.mk ?_; omega)) only [go_sem, Tryz.results169])
        | refine hK.call rfl rfl rfl (cF) ⟨(by intro p hp; cases hp), rfl, rfl, (by simp only [dstOk, Nat.reduceLT])⟩ ?_
        | (with_reducible refine And.intro (by first | omega | (simp only [List.length_append, List.length_take, List.length_drop, List.length_cons, List.length_nil, List.length_map]; omega)) ?_)
        | ((with_reducible refine And.intro ?_ ?_); · first | (intro x hx; subst hx; rfl) | exact upR_mem fun _ _ => rfl | exact mapR_mem fun _ _ => rfl | (intro x; refine And.intro ?_ ?_ <;> (intros; subst_vars; rfl)))
        | fail
      · rw [hno i hil h]
        exact ⟨⟨rfl, rfl⟩, rfl⟩
      · exact ⟨i + 1, (by (refine covers_mk0 rfl rfl ?_ ?_ ?_ ?_ <;> simp (disch := (refine Om.mk ?_; omega)) only [go_sem] <;> (try omega)); rw [htk, List.map_append]; exact ⟨rfl, by omega⟩), ⟨by omega, upto_succ hj h⟩, by omega⟩
    · rw [List.take_of_length_le (by omega)]
      rw [← hFG fun j hj' => hj j (by omega)]
      have hpl : (t.getD a default + bh).toNat < ps.length := by omega
      have hsl := hQ.1.1.1
      repeat' first
        | ((exfalso; omega))
        | exact Bool.noConfusion h
        | refine sw_seq ?_
        | refine sw_block ?_
        | refine sw_skip ?_
        | refine sw_inBlock ?_
        | refine sw_go 0 kp169 fun K hK => ?_
        | refine fun (K : List Oper → LS → Prop) (hK : KOk S 0 _ _ _ K) => ?_
        | ((first | refine runL_go ?_ | refine runQ_go ?_); simp (disch := (refine Om.mk ?_; omega)) only [go_sem])
        | (refine hK.nil ?_; clear hK K; simp only [go_sem])
        | (refine sw_cond rfl (fun h => ?_) (fun h => ?_) <;> (try simp (disch := (refine Om.mk ?_; omega)) only [go_sem] at h))
        | (refine sw_exit rfl ?_)
        | (refine sw_loopEnd ?_)
        | ((first | refine sw_ret (ret0 ?_) | refine sw_ret ?_); simp (disch := (refine Om.mk ?_; omega)) only [go_sem, Tryz.results169])
        | (refine hK.call rfl rfl rfl (FC.args (cA) ?le) ⟨(by intro p hp; cases hp), rfl, rfl, (by simp only [dstOk, Nat.reduceLT])⟩ ?_; case le => (simp only [go_sem]; repeat' first | exact trivial | exact D.le.refl _ | exact D.le.any | refine And.intro ?_ ?_))
        | (with_reducible refine And.intro (by first | omega | (simp only [List.length_append, List.length_take, List.length_drop, List.length_cons, List.length_nil, List.length_map]; omega)) ?_)
        | ((with_reducible refine And.intro ?_ ?_); · first | (intro x hx; subst hx; rfl) | exact upR_mem fun _ _ => rfl | exact mapR_mem fun _ _ => rfl | (intro x; refine And.intro ?_ ?_ <;> (intros; subst_vars; rfl)))
        | fail
def kp151 : List (Nat × List Nat) := [(0, [1, 2, 3, 4, 8]), (1, [8, 9])]
attribute [go_sem] kp151
theorem formAt_fc (rs : List Int) (ps : List PolyT) (t : List Int) (hT : TermOkP rs t) (hQ : PsOk rs ps) : ∀ f a : Nat, a < t.length → (subS rs t a).length ≤ f → FC S 151 [] [] [] [.agg [.sl .any (rs.map (.int .i64))], .sl .any (ps.map PolyD), .sl .any (t.map (.int .i64)), .int .i64 a] (.tup [PolyD (formM rs ps f (subS rs t a)).1, .bool (formM rs ps f (subS rs t a)).2]) [] [] := by
  intro f
  induction f with
  | zero => intro a ha hl; have := (subS_ok hT ha).2.1.1; omega
  | succ f ih =>
    intro a ha hl
    have c := markedForm_fc rs ps t hT hQ 0 (by omega) f a ha (fun h => ⟨by have := (hT.low ha).1.2; have := hQ.1.2; omega, by rw [Int.add_zero]; exact hQ.at h (hT.low ha).1.2⟩) (fun q h1 h2 h3 => ih q h2 h3) hl
    rw [headM_zero] at c
    refine fc_body Tryz.func151 rfl (by kernel_rfl) (by simp [Tryz.f151]) fun B => ?_
    simp only [Tryz.ntmps151, enumD, List.map_nil, List.map_cons, List.length_map, Nat.zero_add, Nat.reduceAdd]
    repeat' first
      | exact Bool.noConfusion h
      | refine sw_seq ?_
      | refine sw_block ?_
      | refine sw_skip ?_
      | refine sw_inBlock ?_
      | refine sw_go 0 kp151 fun K hK => ?_
      | refine fun (K : List Oper → LS → Prop) (hK : KOk S 0 _ _ _ K) => ?_
      | ((first | refine runL_go ?_ | refine runQ_go ?_); simp (disch := (refine Om.mk ?_; omega)) only [go_sem])
      | (refine hK.nil ?_; clear hK K; simp only [go_sem])
      | (refine sw_cond rfl (fun h => ?_) (fun h => ?_) <;> (try simp (disch := (refine Om.mk ?_; omega)) only [go_sem] at h))
      | (refine sw_exit rfl ?_)
      | (refine sw_loopEnd ?_)
      | ((first | refine sw_ret (ret0 ?_) | refine sw_ret ?_); simp (disch := (refine Om.mk ?_; omega)) only [go_sem, Tryz.results151])
      | refine hK.call rfl rfl rfl (c) ⟨(by intro p hp; cases hp), rfl, rfl, (by simp only [dstOk, Nat.reduceLT])⟩ ?_
      | (with_reducible refine And.intro (by first | omega | (simp only [List.length_append, List.length_take, List.length_drop, List.length_cons, List.length_nil, List.length_map]; omega)) ?_)
      | ((with_reducible refine And.intro ?_ ?_); · first | (intro x hx; subst hx; rfl) | exact upR_mem fun _ _ => rfl | exact mapR_mem fun _ _ => rfl | (intro x; refine And.intro ?_ ?_ <;> (intros; subst_vars; rfl)))
      | fail
end Go.Proofs.YtpfeecgbiikpaaaGreat
