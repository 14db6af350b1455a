/-
  Linear forms of terms: the specification's side, the whole.
-/
import Derived.Test.YtpfeecgbiikpaaaGreatA15s
namespace Go.Proofs.YtpfeecgbiikpaaaGreat
open Go Go.Lg
set_option linter.unusedSimpArgs false
set_option linter.unusedVariables false
set_option maxHeartbeats 4000000
attribute [local irreducible] SW runL runQ runG runQG FC Ret1 toF redoL anyB addJ specJ specL formM
theorem flat_zeros (n : Nat) (k : IntKind) (m : Int) : (List.replicate n [D.int k m]).flatten = (List.replicate n m).map (.int k) := by rw [flatten_one, List.map_replicate]
theorem idsL_intsF (k : IntKind) (xs : List Int) : D.idsL (xs.map (.int k)) = [] := by
  induction xs with
  | nil => rfl
  | cons x r ih => simp [D.idsL, D.ids, ih]
attribute [local go_sem] flat_zeros idsL_intsF
theorem addR_fst {a b : PolyT} {c : Int} (h : (addR a b c).2 = true) : (addR a b c).1 = addF a b c := by
  have h1 := (addR_ok.1 h).1
  rw [addR_yes h1]
def kp147 : List (Nat × List Nat) := [(0, [1, 3, 4, 6, 8]), (1, [1, 3, 4, 6, 8, 10]), (2, [1, 3, 4, 6, 8, 10, 11]), (3, [1, 3, 4, 6, 8, 10, 11, 22]), (5, [1, 3, 4, 6, 8, 10, 11, 12, 13]), (6, [1, 3, 4, 6, 8, 10, 11, 12, 36]), (7, [8, 9]), (8, [1, 3, 4, 6, 8, 10, 11, 14, 15]), (9, [1, 3, 4, 6, 8, 10, 11, 14, 50]), (10, [8, 9]), (11, [1, 3, 4, 6, 8, 10, 11]), (4, [1, 3, 4, 6, 8, 10, 11]), (12, [8, 9])]
attribute [go_sem] kp147
theorem l15Sum_fc (rs : List Int) (ps : List PolyT) (p : PolyT) (parts : List (List Int)) (F : Nat → PolyT × Bool) (hp : PolyOkP parts.length p) (hn : parts.length ≤ 3) (hF : ∀ j < parts.length, GoodB MF (F j).1) (hform : ∀ j < parts.length, FC S 146 [] [] [] [.agg [.sl .any (rs.map (.int .i64))], .sl .any (ps.map PolyD), .sl .any ((parts.getD j default).map (.int .i64))] (.tup [PolyD (F j).1, .bool (F j).2]) [] []) : FC S 147 [] [] [] [.agg [.sl .any (rs.map (.int .i64))], .sl .any (ps.map PolyD), PolyD p, .sl .any (parts.map IntsD)] (.tup [PolyD (appF1 F p parts.length).1, .bool (appF1 F p parts.length).2]) [] [] := by
  have hpl := hp.1
  refine fc_body Tryz.func147 rfl (by kernel_rfl) (by simp [Tryz.f147]) fun B => ?_
  simp only [Tryz.ntmps147, enumD, List.map_nil, List.map_cons, List.length_map, Nat.zero_add, Nat.reduceAdd]
  repeat' first
    | exact Bool.noConfusion h
    | refine sw_seq ?_
    | refine sw_block ?_
    | refine sw_skip ?_
    | refine sw_inBlock ?_
    | refine sw_go 0 kp147 fun K hK => ?_
    | refine sw_goT 0 kp147 10 (id := 5) (by kernel_rfl) fun K hK => ?_
    | refine sw_goT 0 kp147 11 (id := 8) (by kernel_rfl) fun K hK => ?_
    | refine fun (K : List Oper → LS → Prop) (hK : KOk S 0 _ _ _ K) => ?_
    | refine sw_goD kp147 (by kernel_rfl) fun K hK => ?_
    | ((first | refine runL_go ?_ | refine runQ_go ?_); simp (disch := (refine Om.mk ?_; omega)) only [go_sem])
    | (refine hK.nil ?_; clear hK K; simp only [go_sem])
    | (refine sw_cond rfl (fun h => ?_) (fun h => ?_) <;> (try simp (disch := (refine Om.mk ?_; omega)) only [go_sem] at h))
    | (refine sw_exit rfl ?_)
    | (refine sw_loopEnd ?_)
    | ((first | refine sw_ret (ret0 ?_) | refine sw_ret ?_); simp (disch := (refine Om.mk ?_; omega)) only [go_sem, Tryz.results147])
    | (with_reducible refine And.intro (by first | omega | (simp only [List.length_append, List.length_take, List.length_drop, List.length_cons, List.length_nil, List.length_map]; omega)) ?_)
    | ((with_reducible refine And.intro ?_ ?_); · first | (intro x hx; subst hx; rfl) | exact upR_mem fun _ _ => rfl | exact mapR_mem fun _ _ => rfl | (intro x; refine And.intro ?_ ?_ <;> (intros; subst_vars; rfl)))
    | fail
  refine sw_boxLe 10 [.int .i64 p.const, .sl .any (([] : List Int).map (.int .i64))] rfl rfl (le_two (.refl _) .any) ?_
  simp only [go_sem]
  refine sw_loopT (ι := Nat) (fun i => [(11, .int .i64 i)]) (fun i => [(10, [.int .i64 (sumF F p i).const, .sl .any ((sumF F p i).coef.map (.int .i64))])]) (fun _ => []) (fun i => i ≤ parts.length ∧ (∀ j < i, (F j).2 = true) ∧ okF (sumF F p i)) (fun i => parts.length - i) 0 (by (refine covers_mk0 rfl rfl ?_ ?_ ?_ ?_ <;> simp (disch := (refine Om.mk ?_; omega)) only [go_sem] <;> (try omega)); all_goals first | rfl | exact ⟨rfl, rfl⟩) ⟨by omega, (fun j hj => absurd hj (by omega)), okF_zero hp⟩ (fun i hi => ?_)
  obtain ⟨hi, hj, hok⟩ := hi
  simp only [go_sem]
  have hs1 : sumF F p (i + 1) = addF (sumF F p i) (F i).1 (p.coef.getD i default) := rfl
  have hci := coef_get hp i
  by_cases hil : i < parts.length
  · have cF := hform i hil
    have hg := hF i hil
    have hgs := good_le (good_sum hp i fun j hj => hF j (by omega)) (show (9 + 9 * MF * (i : Int)) ≤ 100 * MF by simp only [MF]; omega)
    have cA := l15Add_fc (sumF F p i) (F i).1 (p.coef.getD i default) hgs hg hci
    have hok1 := addR_ok (a := sumF F p i) (b := (F i).1) (c := p.coef.getD i default)
    rw [← hs1] at hok1
    repeat' first
      | ((exfalso; omega))
      | exact Bool.noConfusion h
      | refine sw_seq ?_
      | refine sw_block ?_
      | refine sw_skip ?_
      | refine sw_inBlock ?_
      | refine sw_go 0 kp147 fun K hK => ?_
      | refine sw_goX 0 kp147 13 (id := 5) (by kernel_rfl) fun K hK => ?_
      | refine sw_goX 0 kp147 14 (id := 8) (by kernel_rfl) fun K hK => ?_
      | (refine hK.alloc rfl rfl ⟨(by simp only [Nat.reduceLT]), rfl⟩ ?_; simp (disch := (refine Om.mk ?_; omega)) only [go_sem])
      | (refine hK.store rfl rfl rfl ⟨⟨(by simp only [go_sem]), (by simp only [go_sem])⟩, (by simp only [go_sem]), (by simp only [go_sem]), (by simp only [go_sem])⟩ ?_; simp (disch := (refine Om.mk ?_; omega)) only [go_sem])
      | (refine toF_go ?_; simp (disch := (refine Om.mk ?_; omega)) only [go_sem])
      | refine fun (K : List Oper → LS → Prop) (hK : KOk S 0 _ _ _ K) => ?_
      | refine sw_goD kp147 (by kernel_rfl) fun K hK => ?_
      | ((first | refine runL_go ?_ | refine runQ_go ?_); simp (disch := (refine Om.mk ?_; omega)) only [go_sem])
      | (refine hK.nil ?_; clear hK K; simp only [go_sem])
      | (refine sw_cond rfl (fun h => ?_) (fun h => ?_) <;> (try simp (disch := (refine Om.mk ?_; omega)) only [go_sem] at h))
      | (refine sw_exit rfl ?_)
      | (refine sw_loopEnd ?_)
      | ((first | refine sw_ret (ret0 ?_) | refine sw_ret ?_); simp (disch := (refine Om.mk ?_; omega)) only [go_sem, Tryz.results147])
      | refine hK.call rfl rfl rfl (cF) ⟨(by intro p hp; cases hp), rfl, rfl, (by simp only [dstOk, Nat.reduceLT])⟩ ?_
      | refine hK.call rfl rfl rfl (cA) ⟨(by intro p hp; cases hp), rfl, rfl, (by simp only [dstOk, Nat.reduceLT])⟩ ?_
      | (with_reducible refine And.intro (by first | omega | (simp only [List.length_append, List.length_take, List.length_drop, List.length_cons, List.length_nil, List.length_map]; omega)) ?_)
      | ((with_reducible refine And.intro ?_ ?_); · first | (intro x hx; subst hx; rfl) | exact upR_mem fun _ _ => rfl | exact mapR_mem fun _ _ => rfl | (intro x; refine And.intro ?_ ?_ <;> (intros; subst_vars; rfl)))
      | fail
    · rw [appF1_no fun e => by have := e.1 i hil; rw [this] at h; cases h]
      exact ⟨⟨rfl, rfl⟩, rfl⟩
    · rw [appF1_no fun e => by have := hok1.2 (ok_sum hp hF e.2 (i + 1) hil); rw [this] at h; cases h]
      exact ⟨⟨rfl, rfl⟩, rfl⟩
    · have e1 := addR_fst h
      rw [e1, ← hs1]
      exact ⟨i + 1, (by (refine covers_mk0 rfl rfl ?_ ?_ ?_ ?_ <;> simp (disch := (refine Om.mk ?_; omega)) only [go_sem] <;> (try omega))), ⟨by omega, upto_succ hj (by assumption), hok1.1 h⟩, by omega⟩
  · repeat' first
      | ((exfalso; omega))
      | exact Bool.noConfusion h
      | refine sw_seq ?_
      | refine sw_block ?_
      | refine sw_skip ?_
      | refine sw_inBlock ?_
      | refine sw_go 0 kp147 fun K hK => ?_
      | refine sw_goT 0 kp147 10 (id := 5) (by kernel_rfl) fun K hK => ?_
      | refine sw_goT 0 kp147 11 (id := 8) (by kernel_rfl) fun K hK => ?_
      | refine fun (K : List Oper → LS → Prop) (hK : KOk S 0 _ _ _ K) => ?_
      | refine sw_goD kp147 (by kernel_rfl) fun K hK => ?_
      | ((first | refine runL_go ?_ | refine runQ_go ?_); simp (disch := (refine Om.mk ?_; omega)) only [go_sem])
      | (refine hK.nil ?_; clear hK K; simp only [go_sem])
      | (refine sw_cond rfl (fun h => ?_) (fun h => ?_) <;> (try simp (disch := (refine Om.mk ?_; omega)) only [go_sem] at h))
      | (refine sw_exit rfl ?_)
      | (refine sw_loopEnd ?_)
      | ((first | refine sw_ret (ret0 ?_) | refine sw_ret ?_); simp (disch := (refine Om.mk ?_; omega)) only [go_sem, Tryz.results147])
      | (with_reducible refine And.intro (by first | omega | (simp only [List.length_append, List.length_take, List.length_drop, List.length_cons, List.length_nil, List.length_map]; omega)) ?_)
      | ((with_reducible refine And.intro ?_ ?_); · first | (intro x hx; subst hx; rfl) | exact upR_mem fun _ _ => rfl | exact mapR_mem fun _ _ => rfl | (intro x; refine And.intro ?_ ?_ <;> (intros; subst_vars; rfl)))
      | fail
    obtain rfl : i = parts.length := by omega
    rw [appF1_yes ⟨hj, hok⟩]
    exact ⟨⟨rfl, rfl⟩, rfl⟩
def kp146 : List (Nat × List Nat) := [(0, [1, 2, 3, 6]), (1, [1, 2, 3, 6, 12]), (2, [2, 6, 8]), (3, [6, 8]), (4, [6, 7]), (5, [6, 7])]
attribute [go_sem] kp146
theorem l15Form_fc (rs : List Int) (ps : List PolyT) (hP : PolysOkP rs ps) : ∀ f t, TermOkP rs t → t.length ≤ f → FC S 146 [] [] [] [.agg [.sl .any (rs.map (.int .i64))], .sl .any (ps.map PolyD), .sl .any (t.map (.int .i64))] (.tup [PolyD (formM rs ps f t).1, .bool (formM rs ps f t).2]) [] [] := by
  intro f
  induction f with
  | zero => intro t ht hl; have := ht.2.1.1; omega
  | succ f ih =>
    intro t ht hl
    have hl2 := ht.2.1
    have hlo := ht.low (show 0 < t.length by omega)
    by_cases h0 : t.getD 0 default < 0
    · rw [formM_var h0]
      refine fc_body Tryz.func146 rfl (by kernel_rfl) (by simp [Tryz.f146]) fun B => ?_
      simp only [Tryz.ntmps146, enumD, List.map_nil, List.map_cons, List.length_map, Nat.zero_add, Nat.reduceAdd]
      refine sw_bnd 2 rfl fun hb2 => ?_
      simp only [D.bnd, List.length_map] at hb2
      repeat' first
        | ((exfalso; omega))
        | ((refine ⟨by rw [List.length_replicate]; omega, ?_⟩))
        | ((refine sw_hold (id := 4) ?_))
        | exact Bool.noConfusion h
        | refine sw_seq ?_
        | refine sw_block ?_
        | refine sw_skip ?_
        | refine sw_inBlock ?_
        | refine sw_go 0 kp146 fun K hK => ?_
        | refine sw_goT 0 kp146 7 (id := 3) (by kernel_rfl) fun K hK => ?_
        | refine sw_goT 0 kp146 14 (id := 5) (by kernel_rfl) fun K hK => ?_
        | refine fun (K : List Oper → LS → Prop) (hK : KOk S 0 _ _ _ K) => ?_
        | refine sw_goD kp146 (by kernel_rfl) fun K hK => ?_
        | ((first | refine runL_go ?_ | refine runQ_go ?_); simp (disch := (refine Om.mk ?_; omega)) only [go_sem])
        | (refine hK.nil ?_; clear hK K; simp only [go_sem])
        | (refine sw_cond rfl (fun h => ?_) (fun h => ?_) <;> (try simp (disch := (refine Om.mk ?_; omega)) only [go_sem] at h))
        | (refine sw_exit rfl ?_)
        | (refine sw_loopEnd ?_)
        | ((first | refine sw_ret (ret0 ?_) | refine sw_ret ?_); simp (disch := (refine Om.mk ?_; omega)) only [go_sem, Tryz.results146])
        | (with_reducible refine And.intro (by first | omega | (simp only [List.length_append, List.length_take, List.length_drop, List.length_cons, List.length_nil, List.length_map]; omega)) ?_)
        | ((with_reducible refine And.intro ?_ ?_); · first | (intro x hx; subst hx; rfl) | exact upR_mem fun _ _ => rfl | exact mapR_mem fun _ _ => rfl | (intro x; refine And.intro ?_ ?_ <;> (intros; subst_vars; rfl)))
        | fail
      refine HoldP.go ?_
      refine sw_freezeBox 8 1 1 .any ((varF (t.getD 0 default)).coef.map (.int .i64)) rfl rfl rfl (by decide) (by rw [flat_ints]; unfold varF; rw [Int.zero_sub]) (by simp [varF]) (fun x hx => by obtain ⟨y, _, rfl⟩ := List.mem_map.1 hx; rfl) (fun d hd => by obtain ⟨y, _, rfl⟩ := List.mem_map.1 hd; rfl) (.inl rfl) ?_
      simp only [go_sem]
      repeat' first
        | exact Bool.noConfusion h
        | refine sw_seq ?_
        | refine sw_block ?_
        | refine sw_skip ?_
        | refine sw_inBlock ?_
        | refine sw_go 0 kp146 fun K hK => ?_
        | refine sw_goT 0 kp146 7 (id := 3) (by kernel_rfl) fun K hK => ?_
        | refine sw_goT 0 kp146 14 (id := 5) (by kernel_rfl) fun K hK => ?_
        | refine fun (K : List Oper → LS → Prop) (hK : KOk S 0 _ _ _ K) => ?_
        | refine sw_goD kp146 (by kernel_rfl) fun K hK => ?_
        | ((first | refine runL_go ?_ | refine runQ_go ?_); simp (disch := (refine Om.mk ?_; omega)) only [go_sem])
        | (refine hK.nil ?_; clear hK K; simp only [go_sem])
        | (refine sw_cond rfl (fun h => ?_) (fun h => ?_) <;> (try simp (disch := (refine Om.mk ?_; omega)) only [go_sem] at h))
        | (refine sw_exit rfl ?_)
        | (refine sw_loopEnd ?_)
        | ((first | refine sw_ret (ret0 ?_) | refine sw_ret ?_); simp (disch := (refine Om.mk ?_; omega)) only [go_sem, Tryz.results146])
        | (with_reducible refine And.intro (by first | omega | (simp only [List.length_append, List.length_take, List.length_drop, List.length_cons, List.length_nil, List.length_map]; omega)) ?_)
        | ((with_reducible refine And.intro ?_ ?_); · first | (intro x hx; subst hx; rfl) | exact upR_mem fun _ _ => rfl | exact mapR_mem fun _ _ => rfl | (intro x; refine And.intro ?_ ?_ <;> (intros; subst_vars; rfl)))
        | fail
      rfl
    · have hpp := poly_at hP (n := t.getD 0 default) (by omega) hlo.1.2
      have hk : (((arS rs (t.getD 0 default)).toNat : Nat) : Int) = arS rs (t.getD 0 default) := by omega
      have hlen := partsU_len rs t (arS rs (t.getD 0 default)).toNat
      rw [← hk, ← hlen] at hpp
      have cS := l15Sum_fc rs ps (ps.getD (t.getD 0 default).toNat default) (partsU rs t (arS rs (t.getD 0 default)).toNat) (fun j => formM rs ps f (argU rs t j)) hpp (by omega) (fun j hj => form_good hP f _ (argU_ok ht (by omega)).1) (fun j hj => by
        rw [partsU_get rs t (by omega)]
        have h1 := argU_ok ht (j := j) (by omega)
        exact ih _ h1.1 (by omega))
      have cP := l13Parts_fc rs t ht
      have hpl : (t.getD 0 default).toNat < ps.length := by have := hP.1.2; omega
      rw [formM_app h0]
      rw [hlen] at cS
      refine fc_body Tryz.func146 rfl (by kernel_rfl) (by simp [Tryz.f146]) fun B => ?_
      simp only [Tryz.ntmps146, enumD, List.map_nil, List.map_cons, List.length_map, Nat.zero_add, Nat.reduceAdd]
      refine sw_bnd 2 rfl fun hb2 => ?_
      simp only [D.bnd, List.length_map] at hb2
      repeat' first
        | ((exfalso; omega))
        | exact Bool.noConfusion h
        | refine sw_seq ?_
        | refine sw_block ?_
        | refine sw_skip ?_
        | refine sw_inBlock ?_
        | refine sw_go 0 kp146 fun K hK => ?_
        | refine sw_goT 0 kp146 7 (id := 3) (by kernel_rfl) fun K hK => ?_
        | refine sw_goT 0 kp146 14 (id := 5) (by kernel_rfl) fun K hK => ?_
        | refine fun (K : List Oper → LS → Prop) (hK : KOk S 0 _ _ _ K) => ?_
        | refine sw_goD kp146 (by kernel_rfl) fun K hK => ?_
        | ((first | refine runL_go ?_ | refine runQ_go ?_); simp (disch := (refine Om.mk ?_; omega)) only [go_sem])
        | (refine hK.nil ?_; clear hK K; simp only [go_sem])
        | (refine sw_cond rfl (fun h => ?_) (fun h => ?_) <;> (try simp (disch := (refine Om.mk ?_; omega)) only [go_sem] at h))
        | (refine sw_exit rfl ?_)
        | (refine sw_loopEnd ?_)
        | ((first | refine sw_ret (ret0 ?_) | refine sw_ret ?_); simp (disch := (refine Om.mk ?_; omega)) only [go_sem, Tryz.results146])
        | refine hK.call rfl rfl rfl (cP) ⟨(by intro p hp; cases hp), rfl, rfl, (by simp only [dstOk, Nat.reduceLT])⟩ ?_
        | refine hK.call rfl rfl rfl (cS) ⟨(by intro p hp; cases hp), rfl, rfl, (by simp only [dstOk, Nat.reduceLT])⟩ ?_
        | (with_reducible refine And.intro (by first | omega | (simp only [List.length_append, List.length_take, List.length_drop, List.length_cons, List.length_nil, List.length_map]; omega)) ?_)
        | ((with_reducible refine And.intro ?_ ?_); · first | (intro x hx; subst hx; rfl) | exact upR_mem fun _ _ => rfl | exact mapR_mem fun _ _ => rfl | (intro x; refine And.intro ?_ ?_ <;> (intros; subst_vars; rfl)))
        | fail
open Classical in
noncomputable def formR (rs : List Int) (ps : List PolyT) (t : List Int) : PolyT × Bool := if PolysOkP rs ps ∧ TermOkP rs t then formM rs ps 60 t else (zeroF, false)
theorem formR_yes {rs : List Int} {ps : List PolyT} {t : List Int} (h : PolysOkP rs ps ∧ TermOkP rs t) : formR rs ps t = formM rs ps 60 t := if_pos h
theorem formR_no {rs : List Int} {ps : List PolyT} {t : List Int} (h : ¬ (PolysOkP rs ps ∧ TermOkP rs t)) : formR rs ps t = (zeroF, false) := if_neg h
theorem formR_good (rs : List Int) (ps : List PolyT) (t : List Int) : GoodB MF (formR rs ps t).1 := by
  rcases Classical.em (PolysOkP rs ps ∧ TermOkP rs t) with h | h
  · rw [formR_yes h]; exact form_good h.1 60 t h.2
  · rw [formR_no h]; exact good_zero
def kp124 : List (Nat × List Nat) := [(0, [1, 2, 3, 6]), (1, [1, 2, 3, 6, 17]), (2, [6, 7]), (3, [6, 7])]
attribute [go_sem] kp124
theorem specFormOf_fc (rs : List Int) (ps : List PolyT) (t : List Int) : FC S 124 [] [] [] [.agg [.sl .any (rs.map (.int .i64))], .sl .any (ps.map PolyD), .sl .any (t.map (.int .i64))] (.tup [PolyD (formR rs ps t).1, .bool (formR rs ps t).2]) [] [] := by
  rcases Classical.em (PolysOkP rs ps ∧ TermOkP rs t) with ⟨h1, h2⟩ | hn
  · rw [formR_yes ⟨h1, h2⟩]
    refine fc_body Tryz.func124 rfl (by kernel_rfl) (by simp [Tryz.f124]) fun B => ?_
    simp only [Tryz.ntmps124, enumD, List.map_nil, List.map_cons, List.length_map, Nat.zero_add, Nat.reduceAdd]
    repeat' first
      | exact Bool.noConfusion h
      | refine sw_seq ?_
      | refine sw_block ?_
      | refine sw_skip ?_
      | refine sw_inBlock ?_
      | refine sw_go 0 kp124 fun K hK => ?_
      | refine fun (K : List Oper → LS → Prop) (hK : KOk S 0 _ _ _ K) => ?_
      | ((first | refine runL_go ?_ | refine runQ_go ?_); simp (disch := (refine Om.mk ?_; omega)) only [go_sem])
      | (refine hK.nil ?_; clear hK K; simp only [go_sem])
      | (refine runG_fork rfl rfl rfl rfl rfl (fun h => ?_) (fun h => ?_) <;> (try simp (disch := (refine Om.mk ?_; omega)) only [go_sem] at h))
      | (refine hK.skip rfl (by simp only [dstOk, Nat.reduceLT]) ?_)
      | (refine sw_cond rfl (fun h => ?_) (fun h => ?_) <;> (try simp (disch := (refine Om.mk ?_; omega)) only [go_sem] at h))
      | (refine sw_exit rfl ?_)
      | (refine sw_loopEnd ?_)
      | ((first | refine sw_ret (ret0 ?_) | refine sw_ret ?_); simp (disch := (refine Om.mk ?_; omega)) only [go_sem, Tryz.results124])
      | refine hK.call rfl rfl rfl (specPolysOk_fc _ _ _) ⟨(by intro p hp; cases hp), rfl, rfl, (by simp only [dstOk, Nat.reduceLT])⟩ ?_
      | refine hK.call rfl rfl rfl (specTermOk_fc _ _ _ _) ⟨(by intro p hp; cases hp), rfl, rfl, (by simp only [dstOk, Nat.reduceLT])⟩ ?_
      | refine hK.call rfl rfl rfl (l15Form_fc rs ps h1 60 t h2 h2.2.1.2) ⟨(by intro p hp; cases hp), rfl, rfl, (by simp only [dstOk, Nat.reduceLT])⟩ ?_
      | (refine hK.fork rfl rfl rfl (fun h => ?_) (fun h => ?_) <;> (try simp (disch := (refine Om.mk ?_; omega)) only [go_sem] at h))
      | (with_reducible refine And.intro (by first | omega | (simp only [List.length_append, List.length_take, List.length_drop, List.length_cons, List.length_nil, List.length_map]; omega)) ?_)
      | ((with_reducible refine And.intro ?_ ?_); · first | (intro x hx; subst hx; rfl) | exact upR_mem fun _ _ => rfl | exact mapR_mem fun _ _ => rfl | (intro x; refine And.intro ?_ ?_ <;> (intros; subst_vars; rfl)))
      | fail
    all_goals first | exact absurd h1 (by assumption) | exact absurd h2 (by assumption)
  · rw [formR_no hn]
    refine fc_body Tryz.func124 rfl (by kernel_rfl) (by simp [Tryz.f124]) fun B => ?_
    simp only [Tryz.ntmps124, enumD, List.map_nil, List.map_cons, List.length_map, Nat.zero_add, Nat.reduceAdd]
    repeat' first
      | ((exact absurd ⟨(by assumption), (by assumption)⟩ hn))
      | exact Bool.noConfusion h
      | refine sw_seq ?_
      | refine sw_block ?_
      | refine sw_skip ?_
      | refine sw_inBlock ?_
      | refine sw_go 0 kp124 fun K hK => ?_
      | refine fun (K : List Oper → LS → Prop) (hK : KOk S 0 _ _ _ K) => ?_
      | ((first | refine runL_go ?_ | refine runQ_go ?_); simp (disch := (refine Om.mk ?_; omega)) only [go_sem])
      | (refine hK.nil ?_; clear hK K; simp only [go_sem])
      | (refine runG_fork rfl rfl rfl rfl rfl (fun h => ?_) (fun h => ?_) <;> (try simp (disch := (refine Om.mk ?_; omega)) only [go_sem] at h))
      | (refine hK.skip rfl (by simp only [dstOk, Nat.reduceLT]) ?_)
      | (refine sw_cond rfl (fun h => ?_) (fun h => ?_) <;> (try simp (disch := (refine Om.mk ?_; omega)) only [go_sem] at h))
      | (refine sw_exit rfl ?_)
      | (refine sw_loopEnd ?_)
      | ((first | refine sw_ret (ret0 ?_) | refine sw_ret ?_); simp (disch := (refine Om.mk ?_; omega)) only [go_sem, Tryz.results124])
      | refine hK.call rfl rfl rfl (specPolysOk_fc _ _ _) ⟨(by intro p hp; cases hp), rfl, rfl, (by simp only [dstOk, Nat.reduceLT])⟩ ?_
      | refine hK.call rfl rfl rfl (specTermOk_fc _ _ _ _) ⟨(by intro p hp; cases hp), rfl, rfl, (by simp only [dstOk, Nat.reduceLT])⟩ ?_
      | (refine hK.fork rfl rfl rfl (fun h => ?_) (fun h => ?_) <;> (try simp (disch := (refine Om.mk ?_; omega)) only [go_sem] at h))
      | (with_reducible refine And.intro (by first | omega | (simp only [List.length_append, List.length_take, List.length_drop, List.length_cons, List.length_nil, List.length_map]; omega)) ?_)
      | ((with_reducible refine And.intro ?_ ?_); · first | (intro x hx; subst hx; rfl) | exact upR_mem fun _ _ => rfl | exact mapR_mem fun _ _ => rfl | (intro x; refine And.intro ?_ ?_ <;> (intros; subst_vars; rfl)))
      | fail
    all_goals exact ⟨rfl, rfl⟩
end Go.Proofs.YtpfeecgbiikpaaaGreat
