/-
  Contracts of matching: the reference's way down the trees, the program's way along the lists.
-/
import Derived.Test.YtlcdahaihlflaaaA03
import Derived.Test.YtlcdahaihlflaaaA20p
import Derived.Test.YtlcdahaihlflaaaA29
namespace Go.Proofs.Ytlcdahaihlflaaa
open Go Go.Lg
set_option linter.unusedSimpArgs false
set_option linter.unusedVariables false
set_option maxHeartbeats 4000000
attribute [local irreducible] SW runL runQ runG runQG FC Ret1
def tkN (u : List Int) : Tk := if u = [] then .nil else .any
def optD (u : List Int) : D := .sl (tkN u) (u.map (.int .i64))
attribute [go_sem] optD
theorem nilY_tkN (u : List Int) (K : D → Prop) : nilY .eql (tkN u) (u.map (.int .i64)) K = K (.bool (tst (u = []))) := by
  unfold tkN
  by_cases h : u = []
  · subst h; simp [nilY, tst]
  · rw [if_neg h, tst_false h]
    simp [nilY, h]
theorem opt_set (g : List (List Int)) (i : Nat) (u : List Int) (h : u ≠ []) : (g.map optD).set i (.sl .any (u.map (.int .i64))) = (g.set i u).map optD := by
  rw [List.map_set]
  congr 1
  simp [optD, tkN, h]
theorem take_full {α : Type} (xs : List α) (n : Nat) (h : Om (xs.length ≤ n)) : xs.take n = xs := List.take_of_length_le h.out
theorem putC_full (cs new : List D) (h : Om (cs.length = new.length)) : putC cs 0 new = new := by
  have h := h.out
  unfold putC
  split
  · match cs, h with
    | [c], _ => rfl
  · unfold putCells
    rw [List.take_zero, List.nil_append, Nat.zero_add, ← h, List.drop_length, List.append_nil]
theorem idsL_opt (g : List (List Int)) : D.idsL (g.map optD) = [] := by
  induction g with
  | nil => rfl
  | cons u g ih => simp [D.idsL, optD, D.ids]; exact ih
theorem tksL_opt (g : List (List Int)) : D.tksL (g.map optD) = [] := by
  induction g with
  | nil => rfl
  | cons u g ih =>
    simp only [List.map_cons, D.tksL, ih, optD, tkN]
    split <;> rfl
theorem all_opt (g : List (List Int)) : (g.map optD).all D.one = true := by
  rw [List.all_eq_true]
  intro d hd
  obtain ⟨u, _, rfl⟩ := List.mem_map.1 hd
  rfl
attribute [local go_sem] idsL_opt tksL_opt nilY_tkN take_full all_opt linM_len
theorem putC_opt (g : List (List Int)) (h : Om (g.length = 24)) : putC [D.sl .nil [], D.sl .nil [], D.sl .nil [], D.sl .nil [], D.sl .nil [], D.sl .nil [], D.sl .nil [], D.sl .nil [], D.sl .nil [], D.sl .nil [], D.sl .nil [], D.sl .nil [], D.sl .nil [], D.sl .nil [], D.sl .nil [], D.sl .nil [], D.sl .nil [], D.sl .nil [], D.sl .nil [], D.sl .nil [], D.sl .nil [], D.sl .nil [], D.sl .nil [], D.sl .nil []] 0 (g.map optD) = g.map optD := putC_full _ _ ⟨by rw [List.length_map, h.out]; rfl⟩
attribute [local go_sem] putC_opt
theorem linM_at (rs t pt : List Int) (i a : Nat) (g : Bnd) (h : i < pt.length) : linM rs t (pt.drop i) a g = if t.length ≤ a then (g, false) else if 0 ≤ pt.getD i default then (if t.getD a default = pt.getD i default then linM rs t (pt.drop (i + 1)) (a + 1) g else (g, false))
      else if g.getD (-1 - pt.getD i default).toNat default = [] then linM rs t (pt.drop (i + 1)) (a + (subS rs t a).length) (g.set (-1 - pt.getD i default).toNat (subS rs t a))
      else if g.getD (-1 - pt.getD i default).toNat default = subS rs t a then linM rs t (pt.drop (i + 1)) (a + (subS rs t a).length) g else (g, false) := by
  rw [drop_cons h]; rfl
def kp149 : List (Nat × List Nat) := [(0, [1, 2, 4, 7, 8]), (1, [1, 2, 4, 7, 8, 10]), (2, [2, 4, 7, 8, 10, 14, 15, 16]), (3, [2, 4, 7, 8, 10, 14, 15, 16, 17]), (4, [2, 4, 7, 8, 10, 12, 14, 15, 16]), (5, [2, 4, 7, 8, 10, 12, 14, 15, 16, 23]), (6, [8, 9]), (7, [2, 4, 7, 8, 10, 12, 14, 15, 16, 26]), (8, [2, 4, 7, 8, 10, 14, 15, 16, 32]), (9, [8, 9]), (10, [2, 4, 7, 8, 10, 14, 15, 16]), (11, [2, 4, 7, 8, 10, 12, 13, 14, 15, 16]), (12, [2, 4, 7, 8, 10, 12, 13, 14, 15, 16, 44]), (13, [2, 4, 7, 8, 10, 13, 14, 15, 16]), (14, [2, 4, 7, 8, 10, 13, 14, 15, 16, 55]), (15, [8, 9]), (16, [2, 4, 7, 8, 10, 14, 15, 16]), (17, [2, 4, 7, 8, 10, 14, 15, 16]), (18, [8, 9])]
attribute [go_sem] kp149
theorem matchInto_fc (tk tk' tk2 : Tk) (rs pt t : List Int) (g0 : Bnd) (hpn : ∀ n ∈ pt, -24 ≤ n) (hT : TermOkP rs t) (hg : g0.length = 24) (hl : pt.length ≤ 60) : FC S 149 [] [] [] [.agg [.sl tk (rs.map (.int .i64))], .sl tk' (pt.map (.int .i64)), .sl tk2 (t.map (.int .i64)), .agg (g0.map optD)] (.tup [.agg ((linM rs t pt 0 g0).1.map optD), .bool (linM rs t pt 0 g0).2]) [] [] := by
  have htl := hT.2.1.2
  refine FC.args (args' := [.agg [.sl .any (rs.map (.int .i64))], .sl .any (pt.map (.int .i64)), .sl .any (t.map (.int .i64)), .agg (g0.map optD)]) ?_ (by simp only [go_sem])
  refine fc_body Try.func149 rfl (by kernel_rfl) (by simp [Try.f149]) fun B => ?_
  simp only [Try.ntmps149, enumD, List.map_nil, List.map_cons, List.length_map, Nat.zero_add, Nat.reduceAdd]
  repeat' first
    | exact Bool.noConfusion h
    | refine sw_seq ?_
    | refine sw_block ?_
    | refine sw_skip ?_
    | refine sw_inBlock ?_
    | refine sw_go 0 kp149 fun K hK => ?_
    | refine fun (K : List Oper → LS → Prop) (hK : KOk S 0 _ _ _ K) => ?_
    | ((first | refine runL_go ?_ | refine runQ_go ?_); simp (disch := (refine Om.mk ?_; omega)) only [go_sem])
    | (refine hK.nil ?_; clear hK K; simp only [go_sem])
    | (refine sw_cond rfl (fun h => ?_) (fun h => ?_) <;> (try simp (disch := (refine Om.mk ?_; omega)) only [go_sem] at h))
    | (refine sw_exit rfl ?_)
    | (refine sw_loopEnd ?_)
    | ((first | refine sw_ret (ret0 ?_) | refine sw_ret ?_); simp (disch := (refine Om.mk ?_; omega)) only [go_sem, Try.results149])
    | (with_reducible refine And.intro (by first | omega | (simp only [List.length_append, List.length_take, List.length_drop, List.length_cons, List.length_nil, List.length_map]; omega)) ?_)
    | ((with_reducible refine And.intro ?_ ?_); · first | (intro x hx; subst hx; rfl) | exact upR_mem fun _ _ => rfl | exact mapR_mem fun _ _ => rfl | (intro x; refine And.intro ?_ ?_ <;> (intros; subst_vars; rfl)))
    | fail
  refine sw_loopU (ι := Nat × Nat × Bnd) (fun p => [(16, .int .i64 p.1), (10, .int .i64 p.2.1)]) (fun p => [(7, p.2.2.map optD)]) (fun p => (linM rs t (pt.drop p.1) p.2.1 p.2.2 = linM rs t pt 0 g0) ∧ p.1 ≤ pt.length ∧ p.2.1 ≤ t.length ∧ p.2.2.length = 24) (fun p => pt.length - p.1) (0, 0, g0) (by (refine covers_mk0 rfl rfl ?_ ?_ ?_ ?_ <;> simp (disch := (refine Om.mk ?_; omega)) only [go_sem] <;> (try omega))) ?_ (fun p hp => ?_)
  rotate_left
  simp only [go_sem]
  obtain ⟨i, a, g⟩ := p
  obtain ⟨h1, h2, h3, h4⟩ := hp
  dsimp only at h1 h2 h3 h4
  have hb := linM_at rs t pt i a g
  have hn : i < pt.length → -24 ≤ pt.getD i default := fun h => hpn _ (getD_mem pt i h)
  have hsub : a < t.length → Fl rs 1 (subS rs t a) ∧ t.drop a = subS rs t a ++ t.drop (a + (subS rs t a).length) ∧ a + (subS rs t a).length ≤ t.length := drop_sub hT
  have hne : a < t.length → subS rs t a ≠ [] := fun h e => by have := (hsub h).1.len; rw [e] at this; simp at this
  repeat' first
    | exact Bool.noConfusion h
    | refine sw_seq ?_
    | refine sw_block ?_
    | refine sw_skip ?_
    | refine sw_inBlock ?_
    | refine sw_go 0 kp149 fun K hK => ?_
    | refine fun (K : List Oper → LS → Prop) (hK : KOk S 0 _ _ _ K) => ?_
    | ((first | refine runL_go ?_ | refine runQ_go ?_); simp (disch := (refine Om.mk ?_; omega)) only [go_sem])
    | (refine hK.nil ?_; clear hK K; simp only [go_sem])
    | (refine sw_cond rfl (fun h => ?_) (fun h => ?_) <;> (try simp (disch := (refine Om.mk ?_; omega)) only [go_sem] at h))
    | (refine sw_exit rfl ?_)
    | (refine sw_loopEnd ?_)
    | ((first | refine sw_ret (ret0 ?_) | refine sw_ret ?_); simp (disch := (refine Om.mk ?_; omega)) only [go_sem, Try.results149])
    | refine hK.call rfl rfl rfl (subAt_fc _ _ rs t a hT (by omega)) ⟨(by intro p hp; cases hp), rfl, rfl, (by simp only [dstOk, Nat.reduceLT])⟩ ?_
    | refine hK.call rfl rfl rfl (equalInt64_fc _ _ _ _) ⟨(by intro p hp; cases hp), rfl, rfl, (by simp only [dstOk, Nat.reduceLT])⟩ ?_
    | (with_reducible refine And.intro (by first | omega | (simp only [List.length_append, List.length_take, List.length_drop, List.length_cons, List.length_nil, List.length_map]; omega)) ?_)
    | ((with_reducible refine And.intro ?_ ?_); · first | (intro x hx; subst hx; rfl) | exact upR_mem fun _ _ => rfl | exact mapR_mem fun _ _ => rfl | (intro x; refine And.intro ?_ ?_ <;> (intros; subst_vars; rfl)))
    | fail
  · have h0 : linM rs t pt 0 g0 = (g, false) := by rw [← h1, hb (by omega), if_pos (by omega)]
    rw [h0]; exact ⟨le0L_refl _, rfl⟩
  · have h0 : linM rs t pt 0 g0 = (g, false) := by rw [← h1, hb (by omega), if_neg (by omega), if_pos (by assumption), if_neg h]
    rw [h0]; exact ⟨le0L_refl _, rfl⟩
  · refine ⟨(i + 1, a + 1, g), (by (refine covers_mk0 rfl rfl ?_ ?_ ?_ ?_ <;> simp (disch := (refine Om.mk ?_; omega)) only [go_sem] <;> (try omega))), ⟨?_, by dsimp only; omega, by dsimp only; omega, h4⟩, by dsimp only; omega⟩
    rw [← h1, hb (by omega), if_neg (by omega), if_pos (by assumption), if_pos h]
  · refine ⟨(i + 1, a + (subS rs t a).length, g.set (-1 - pt.getD i default).toNat (subS rs t a)), (by (refine covers_mk0 rfl rfl ?_ ?_ ?_ ?_ <;> simp (disch := (refine Om.mk ?_; omega)) only [go_sem] <;> (try omega)); exact opt_set _ _ _ (hne (by omega))), ⟨?_, by dsimp only; omega, (hsub (by omega)).2.2, by rw [List.length_set]; exact h4⟩, by dsimp only; omega⟩
    rw [← h1, hb (by omega), if_neg (by omega), if_neg (by omega), if_pos h]
  · have h0 : linM rs t pt 0 g0 = (g, false) := by rw [← h1, hb (by omega), if_neg (by omega), if_neg (by omega), if_neg (by assumption), if_neg h]
    rw [h0]; exact ⟨le0L_refl _, rfl⟩
  · refine ⟨(i + 1, a + (subS rs t a).length, g), (by (refine covers_mk0 rfl rfl ?_ ?_ ?_ ?_ <;> simp (disch := (refine Om.mk ?_; omega)) only [go_sem] <;> (try omega))), ⟨?_, by dsimp only; omega, (hsub (by omega)).2.2, h4⟩, by dsimp only; omega⟩
    rw [← h1, hb (by omega), if_neg (by omega), if_neg (by omega), if_neg (by assumption), if_pos h]
  · have h0 : linM rs t pt 0 g0 = (g, true) := by rw [← h1, show i = pt.length by omega, List.drop_length]; rfl
    rw [h0]; exact ⟨le0L_refl _, rfl⟩
  · exact ⟨rfl, by dsimp only; omega, by dsimp only; omega, hg⟩
theorem flat_intsD (g : List (List Int)) : flat (g.map IntsD) = g.map IntsD := by
  induction g with
  | nil => rfl
  | cons u g ih => simp [flat] at ih ⊢; simp [D.cells, IntsD]; exact ih
theorem intsD_one (g : List (List Int)) : ∀ y ∈ g.map IntsD, y.cells.length = 1 := fun y hy => by
  obtain ⟨x, _, rfl⟩ := List.mem_map.1 hy
  rfl
theorem intsD_mem (g : List (List Int)) : ∀ y ∈ g.map IntsD, y.memOk = true := fun y hy => by
  obtain ⟨x, _, rfl⟩ := List.mem_map.1 hy
  rfl
theorem flatMap_intsD (g : List (List Int)) : List.flatMap D.cells (g.map IntsD) = g.map IntsD := flat_intsD g
attribute [local go_sem] flatMap_intsD
theorem argsS_len (rs t : List Int) (a : Nat) : (argsS rs t a).length = (arS rs (t.getD a default)).toNat := begS_length _ _ _ _
theorem argsS_get (rs t : List Int) (a j : Nat) (h : j < (arS rs (t.getD a default)).toNat) : (argsS rs t a).getD j default = nthB rs t (a + 1) j := begS_get _ _ _ _ _ h
def kp140 : List (Nat × List Nat) := [(0, [1, 2, 3, 4]), (1, [1, 2, 3, 4, 24]), (2, [8, 9]), (3, [1, 2, 3, 4, 29]), (4, [1, 3, 10]), (5, [1, 3, 10, 39]), (6, [8, 9]), (7, [3, 10, 11]), (8, [11]), (9, [8, 9]), (10, [1, 2, 3, 4, 61]), (11, [8, 9]), (12, [1, 2, 3, 4, 12]), (13, [1, 2, 3, 4, 12, 13]), (14, [1, 2, 3, 4, 12, 13, 14]), (15, [1, 2, 3, 4, 12, 13, 14, 72]), (17, [1, 2, 3, 4, 12, 13, 14, 15, 16]), (18, [1, 2, 3, 4, 12, 13, 14, 15, 96]), (19, [8, 9]), (20, [1, 2, 3, 4, 12, 13, 14]), (16, [1, 2, 3, 4, 12, 13, 14]), (21, [8, 9])]
attribute [go_sem] kp140
theorem l20Match_fc (rs : List Int) : ∀ (f : Nat) (tk tk1 tk2 tk3 : Tk) (g : Bnd) (pt t : List Int) (hP : TermOkP rs pt) (hT : TermOkP rs t) (hg : g.length = 24) (hf : pt.length ≤ f), FC S 140 [] [] [] [.agg [.sl tk (rs.map (.int .i64))], .sl tk1 (g.map IntsD), .sl tk2 (pt.map (.int .i64)), .sl tk3 (t.map (.int .i64))] (.tup [.sl .any ((specM rs f g pt t).1.map IntsD), .bool (specM rs f g pt t).2]) [] [] := by
  intro f
  induction f with
  | zero => intro tk tk1 tk2 tk3 g pt t hP hT hg hf; have := hP.2.1.1; omega
  | succ f ih =>
    intro tk tk1 tk2 tk3 g pt t hP hT hg hf
    have hpl := hP.2.1
    have htl := hT.2.1
    have hlo := hP.low (a := 0) (by omega)
    have hlt := hT.low (a := 0) (by omega)
    have hne : ¬ (pt = [] ∨ t = []) := by
      rintro (e | e)
      · rw [e] at hpl; simp at hpl
      · rw [e] at htl; simp at htl
    refine FC.args (args' := [.agg [.sl .any (rs.map (.int .i64))], .sl .any (g.map IntsD), .sl .any (pt.map (.int .i64)), .sl .any (t.map (.int .i64))]) ?_ (by simp only [go_sem])
    refine fc_body Try.func140 rfl (by kernel_rfl) (by simp [Try.f140]) fun B => ?_
    simp only [Try.ntmps140, enumD, List.map_nil, List.map_cons, List.length_map, Nat.zero_add, Nat.reduceAdd]
    repeat' first
      | (refine sw_appT kp140 49 (tk2 := .any) (ys := g.map IntsD) rfl rfl rfl ⟨by simp [TyI.size], by intro e; have := congrArg List.length e; simp at this; rw [this] at hg; simp at hg, intsD_one g, by simp; omega, by simp; omega⟩ ?_; simp only [go_sem])
      | (refine sw_freezeAt 9 11 1 .any ((g.set (-1 - pt.getD 0 default).toNat t).map IntsD) rfl rfl (flat_intsD _).symm (by simp) (intsD_one _) (intsD_mem _) (.inl rfl) ?_; simp only [go_sem])
      | exact Bool.noConfusion h
      | refine sw_seq ?_
      | refine sw_block ?_
      | refine sw_skip ?_
      | refine sw_inBlock ?_
      | refine sw_go 0 kp140 fun K hK => ?_
      | refine fun (K : List Oper → LS → Prop) (hK : KOk S 0 _ _ _ K) => ?_
      | refine sw_goD kp140 (by kernel_rfl) fun K hK => ?_
      | ((first | refine runL_go ?_ | refine runQ_go ?_); simp (disch := (refine Om.mk ?_; omega)) only [go_sem])
      | (refine hK.nil ?_; clear hK K; simp only [go_sem])
      | (refine runG_fork rfl rfl rfl rfl rfl (fun h => ?_) (fun h => ?_) <;> (try simp (disch := (refine Om.mk ?_; omega)) only [go_sem] at h))
      | (refine runQG_fork rfl rfl rfl rfl rfl (fun h => ?_) (fun h => ?_) <;> (try simp (disch := (refine Om.mk ?_; omega)) only [go_sem] at h))
      | (refine hK.skip rfl (by simp only [dstOk, Nat.reduceLT]) ?_)
      | (refine sw_cond rfl (fun h => ?_) (fun h => ?_) <;> (try simp (disch := (refine Om.mk ?_; omega)) only [go_sem] at h))
      | (refine sw_exit rfl ?_)
      | (refine sw_loopEnd ?_)
      | ((first | refine sw_ret (ret0 ?_) | refine sw_ret ?_); simp (disch := (refine Om.mk ?_; omega)) only [go_sem, Try.results140])
      | refine hK.call rfl rfl rfl (specSameTerm_fc _ _ _ _) ⟨(by intro p hp; cases hp), rfl, rfl, (by simp only [dstOk, Nat.reduceLT])⟩ ?_
      | refine hK.call rfl rfl rfl (specArgsAt_fc _ _ rs pt 0 hP (by omega)) ⟨(by intro p hp; cases hp), rfl, rfl, (by simp only [dstOk, Nat.reduceLT])⟩ ?_
      | refine hK.call rfl rfl rfl (specArgsAt_fc _ _ rs t 0 hT (by omega)) ⟨(by intro p hp; cases hp), rfl, rfl, (by simp only [dstOk, Nat.reduceLT])⟩ ?_
      | (refine hK.fork rfl rfl rfl (fun h => ?_) (fun h => ?_) <;> (try simp (disch := (refine Om.mk ?_; omega)) only [go_sem] at h))
      | (with_reducible refine And.intro (by first | omega | (simp only [List.length_append, List.length_take, List.length_drop, List.length_cons, List.length_nil, List.length_map]; omega)) ?_)
      | ((with_reducible refine And.intro ?_ ?_); · first | (intro x hx; subst hx; rfl) | exact upR_mem fun _ _ => rfl | exact mapR_mem fun _ _ => rfl | (intro x; refine And.intro ?_ ?_ <;> (intros; subst_vars; rfl)))
      | fail
    · exact absurd (by assumption) (show ¬ ((pt.length : Int) = 0) by omega)
    · exact absurd h (show ¬ ((t.length : Int) = 0) by omega)
    · have hg0 : ¬ g.getD (vx (pt.getD 0 default)) default = [] := fun e => by
        have e : g.getD (-1 - pt.getD 0 default).toNat default = [] := e
        rw [e] at h; simp at h
      rw [specM, if_neg hne, if_pos (by assumption), if_neg hg0]
      exact ⟨rfl, (decide_tst _).symm⟩
    · have hg0 : g.getD (vx (pt.getD 0 default)) default = [] := by
        have : g.getD (-1 - pt.getD 0 default).toNat default = [] := List.length_eq_zero_iff.1 (by omega)
        exact this
      rw [specM, if_neg hne, if_pos (by assumption), if_pos hg0]
      exact ⟨rfl, rfl⟩
    · rw [specM, if_neg hne, if_neg (show ¬ pt.getD 0 default < 0 by omega), if_neg h]
      exact ⟨rfl, rfl⟩
    have hpos : ¬ pt.getD 0 default < 0 := by omega
    have hsM : specM rs (f + 1) g pt t = specA (specM rs f) rs pt t g (arS rs (pt.getD 0 default)).toNat := by rw [specM, if_neg hne, if_neg hpos, if_pos h]
    have hlenP := argsS_len rs pt 0
    have hlenT := argsS_len rs t 0
    rw [← h] at hlenT
    have hgP := argsS_get rs pt 0
    have hgT := argsS_get rs t 0
    rw [← h] at hgT
    generalize hk : (arS rs (pt.getD 0 default)).toNat = k at hlenP hlenT hgP hgT hsM
    have hPa : ∀ j < k, 0 < (argsS rs pt 0).getD j default ∧ (argsS rs pt 0).getD j default < pt.length := fun j hj => by
      rw [hgP j hj]; exact nthB_lt hP (by omega) (by omega)
    have hTa : ∀ j < k, 0 < (argsS rs t 0).getD j default ∧ (argsS rs t 0).getD j default < t.length := fun j hj => by
      rw [hgT j hj]; exact nthB_lt hT (by omega) (by rw [← h]; omega)
    have hsz : ∀ j < k, (subS rs pt ((argsS rs pt 0).getD j default)).length ≤ f := fun j hj => by
      have h1 := hPa j hj
      have := (drop_sub hP h1.2).2.2
      omega
    have hF : ∀ g p t, (specM rs f g p t).1.length = g.length := specM_len rs f
    refine sw_loopU (ι := Nat) (fun p => [(14, .int .i64 p), (1, .sl .any ((specA (specM rs f) rs pt t g p).1.map IntsD))]) (fun p => []) (fun p => p ≤ k ∧ (specA (specM rs f) rs pt t g p).2 = true) (fun p => k - p) 0 (by (refine covers_mk0 rfl rfl ?_ ?_ ?_ ?_ <;> simp (disch := (refine Om.mk ?_; omega)) only [go_sem] <;> (try omega)); exact ⟨rfl, rfl⟩) ?_ (fun p hp => ?_)
    rotate_left
    simp only [go_sem]
    obtain ⟨hp1, hp2⟩ := hp
    have hs1 := specA_succ hp2
    have hs2 := hgP p
    have hs3 := hgT p
    have hla := specA_len hF rs pt t g p
    repeat' first
      | exact Bool.noConfusion h
      | refine sw_seq ?_
      | refine sw_block ?_
      | refine sw_skip ?_
      | refine sw_inBlock ?_
      | refine sw_go 0 kp140 fun K hK => ?_
      | refine fun (K : List Oper → LS → Prop) (hK : KOk S 0 _ _ _ K) => ?_
      | refine sw_goD kp140 (by kernel_rfl) fun K hK => ?_
      | ((first | refine runL_go ?_ | refine runQ_go ?_); simp (disch := (refine Om.mk ?_; omega)) only [go_sem])
      | (refine hK.nil ?_; clear hK K; simp only [go_sem])
      | (refine runG_fork rfl rfl rfl rfl rfl (fun h => ?_) (fun h => ?_) <;> (try simp (disch := (refine Om.mk ?_; omega)) only [go_sem] at h))
      | (refine runQG_fork rfl rfl rfl rfl rfl (fun h => ?_) (fun h => ?_) <;> (try simp (disch := (refine Om.mk ?_; omega)) only [go_sem] at h))
      | (refine hK.skip rfl (by simp only [dstOk, Nat.reduceLT]) ?_)
      | (refine sw_cond rfl (fun h => ?_) (fun h => ?_) <;> (try simp (disch := (refine Om.mk ?_; omega)) only [go_sem] at h))
      | (refine sw_exit rfl ?_)
      | (refine sw_loopEnd ?_)
      | ((first | refine sw_ret (ret0 ?_) | refine sw_ret ?_); simp (disch := (refine Om.mk ?_; omega)) only [go_sem, Try.results140])
      | refine hK.call rfl rfl rfl (specSubAt_fc _ _ rs pt ((argsS rs pt 0).getD p default) hP (hPa p (by omega)).2) ⟨(by intro p hp; cases hp), rfl, rfl, (by simp only [dstOk, Nat.reduceLT])⟩ ?_
      | refine hK.call rfl rfl rfl (specSubAt_fc _ _ rs t ((argsS rs t 0).getD p default) hT (hTa p (by omega)).2) ⟨(by intro p hp; cases hp), rfl, rfl, (by simp only [dstOk, Nat.reduceLT])⟩ ?_
      | refine hK.call rfl rfl rfl (ih _ _ _ _ (specA (specM rs f) rs pt t g p).1 (subS rs pt ((argsS rs pt 0).getD p default)) (subS rs t ((argsS rs t 0).getD p default)) (subS_ok hP (hPa p (by omega)).2) (subS_ok hT (hTa p (by omega)).2) (by omega) (hsz p (by omega))) ⟨(by intro p hp; cases hp), rfl, rfl, (by simp only [dstOk, Nat.reduceLT])⟩ ?_
      | (refine hK.fork rfl rfl rfl (fun h => ?_) (fun h => ?_) <;> (try simp (disch := (refine Om.mk ?_; omega)) only [go_sem] at h))
      | (with_reducible refine And.intro (by first | omega | (simp only [List.length_append, List.length_take, List.length_drop, List.length_cons, List.length_nil, List.length_map]; omega)) ?_)
      | ((with_reducible refine And.intro ?_ ?_); · first | (intro x hx; subst hx; rfl) | exact upR_mem fun _ _ => rfl | exact mapR_mem fun _ _ => rfl | (intro x; refine And.intro ?_ ?_ <;> (intros; subst_vars; rfl)))
      | fail
    · rw [show (0 : Nat) + 1 = 1 from rfl] at hs2 hs3
      rw [hs2 (by omega), hs3 (by omega)] at h
      rw [if_neg (by rw [h]; simp)] at hs1
      have hst := specA_stop (by rw [hs1]) (k - (p + 1))
      rw [show p + 1 + (k - (p + 1)) = k by omega, hs1] at hst
      rw [hsM, hst]
      exact ⟨rfl, rfl⟩
    · rw [show (0 : Nat) + 1 = 1 from rfl] at hs2 hs3
      have e2 := hs2 (by omega)
      have e3 := hs3 (by omega)
      rw [← e2, ← e3, if_pos h] at hs1
      exact ⟨p + 1, (by (refine covers_mk0 rfl rfl ?_ ?_ ?_ ?_ <;> simp (disch := (refine Om.mk ?_; omega)) only [go_sem] <;> (try omega)); rw [hs1]; exact ⟨rfl, by omega⟩), ⟨by omega, by rw [hs1]; exact h⟩, by omega⟩
    · rw [hsM, show k = p by omega, hp2]
      first | exact ⟨rfl, rfl⟩ | rfl
    · first | exact ⟨by omega, rfl⟩ | rfl
end Go.Proofs.Ytlcdahaihlflaaa
