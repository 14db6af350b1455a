/-
  Unification: terms whose variables go to -48 (those of the second term come behind those of the first one): ends, arguments, subterms.
-/
import Derived.Test.YtlcdahaihlflaaaA03
namespace Go.Proofs.Ytlcdahaihlflaaa
open Go Go.Lg
set_option linter.unusedSimpArgs false
set_option linter.unusedVariables false
set_option maxHeartbeats 4000000
attribute [local irreducible] SW runL runQ runG runQG FC Ret1
/-- a variable beyond the 24th is taken for one 24 below -/
def phi (n : Int) : Int := if n < -24 then n + 24 else n
def phiL (t : List Int) : List Int := t.map phi
theorem phiL_len (t : List Int) : (phiL t).length = t.length := List.length_map _
theorem phiL_get (t : List Int) (i : Nat) (h : i < t.length) : (phiL t).getD i default = phi (t.getD i default) := by
  simp [phiL, List.getD_eq_getElem?_getD, h]
theorem phi_neg (n : Int) (h : -48 ≤ n) : phi n < 0 ↔ n < 0 := by unfold phi; split <;> omega
theorem phi_pos {n : Int} (h : 0 ≤ n) : phi n = n := by unfold phi; rw [if_neg (by omega)]
def XT (rs t : List Int) : Prop := TermOkP rs (phiL t) ∧ ∀ x ∈ t, -48 ≤ x
theorem XT.len {rs t : List Int} (h : XT rs t) : 1 ≤ t.length ∧ t.length ≤ 60 := by have := h.1.2.1; rwa [phiL_len] at this
theorem XT.get {rs t : List Int} (h : XT rs t) {a : Nat} (ha : a < t.length) : -48 ≤ t.getD a default ∧ t.getD a default < rs.length := by
  have h1 := h.2 _ (getD_mem t a ha)
  have h2 := (h.1.low (a := a) (by rw [phiL_len]; exact ha)).1
  rw [phiL_get t a ha] at h2
  refine ⟨h1, ?_⟩
  have := h2.2
  unfold phi at this
  split at this <;> omega
def subX (rs t : List Int) (a : Nat) : List Int := (t.take (endS rs (phiL t) a).toNat).drop a
theorem subX_phi (rs t : List Int) (a : Nat) : phiL (subX rs t a) = subS rs (phiL t) a := by simp [phiL, subX, subS, List.map_drop, List.map_take]
theorem subX_ok {rs t : List Int} (h : XT rs t) {a : Nat} (ha : a < t.length) : XT rs (subX rs t a) := by
  refine ⟨?_, fun x hx => h.2 x (List.mem_of_mem_take (List.mem_of_mem_drop hx))⟩
  rw [subX_phi]
  exact subS_ok h.1 (by rw [phiL_len]; exact ha)
theorem arityAtX_fc (tk : Tk) (rs : List Int) (n : Int) (hn : -48 ≤ n ∧ n < rs.length) : FC S 164 [] [] [] [.agg [.sl tk (rs.map (.int .i64))], .int .i64 n] (.int .i64 (arS rs (phi n))) [] [] := by
  refine fc_body Try.func164 rfl (by kernel_rfl) (by simp [Try.f164]) fun B => ?_
  simp only [Try.ntmps164, enumD, List.map_nil, List.map_cons, List.length_map, Nat.zero_add, Nat.reduceAdd]
  refine sw_bnd_agg 0 0 rfl rfl fun hb0_0 => ?_
  simp only [D.bnd, List.length_map] at hb0_0
  repeat' first
    | exact Bool.noConfusion h
    | refine sw_seq ?_
    | refine sw_block ?_
    | refine sw_skip ?_
    | refine sw_inBlock ?_
    | refine sw_go 0 kp164 fun K hK => ?_
    | refine fun (K : List Oper → LS → Prop) (hK : KOk S 0 _ _ _ K) => ?_
    | ((first | refine runL_go ?_ | refine runQ_go ?_); simp (disch := (refine Om.mk ?_; omega)) only [go_sem])
    | (refine hK.nil ?_; clear hK K; simp only [go_sem])
    | (refine sw_cond rfl (fun h => ?_) (fun h => ?_) <;> (try simp (disch := (refine Om.mk ?_; omega)) only [go_sem] at h))
    | (refine sw_exit rfl ?_)
    | (refine sw_loopEnd ?_)
    | ((first | refine sw_ret (ret0 ?_) | refine sw_ret ?_); simp (disch := (refine Om.mk ?_; omega)) only [go_sem, Try.results164])
    | (with_reducible refine And.intro (by first | omega | (simp only [List.length_append, List.length_take, List.length_drop, List.length_cons, List.length_nil, List.length_map]; omega)) ?_)
    | ((with_reducible refine And.intro ?_ ?_); · first | (intro x hx; subst hx; rfl) | exact upR_mem fun _ _ => rfl | exact mapR_mem fun _ _ => rfl | (intro x; refine And.intro ?_ ?_ <;> (intros; subst_vars; rfl)))
    | fail
  · exact (arS_var (by unfold phi; split <;> omega)).symm
  · rw [phi_pos (by omega), arS_sym (by omega)]
theorem nextX_fc (id : Nat) (rs t : List Int) (a : Nat) (hs : SigOkP rs) (ht : ∀ x ∈ t, -48 ≤ x) : FC S 182 [] [(id, [.sl .any (rs.map (.int .i64)), .sl .any (t.map (.int .i64)), .int .i64 a])] [] [.box id 0] (.int .i64 (nxS rs (phiL t) a)) [(id, [.sl .any (rs.map (.int .i64)), .sl .any (t.map (.int .i64)), .int .i64 ((if nxS rs (phiL t) a < 0 then a else a + 1 : Nat) : Int)])] [] := by
  have hx : a < t.length → -48 ≤ t.getD a default := fun h => ht _ (getD_mem t a h)
  have hp := phiL_get t a
  have hlen := phiL_len t
  have hneg := phi_neg (t.getD a default)
  have hpos := @phi_pos (t.getD a default)
  refine fc_body Try.func182 rfl (by kernel_rfl) (by simp [Try.f182]) fun B => ?_
  simp only [Try.ntmps182, enumD, List.map_nil, List.map_cons, List.length_map, Nat.zero_add, Nat.reduceAdd]
  refine sw_bnd_box id 1 (if_pos rfl) rfl fun hbid_1 => ?_
  simp only [D.bnd, List.length_map] at hbid_1
  repeat' first
    | exact Bool.noConfusion h
    | refine sw_seq ?_
    | refine sw_block ?_
    | refine sw_skip ?_
    | refine sw_inBlock ?_
    | refine sw_go 0 kp182 fun K hK => ?_
    | refine fun (K : List Oper → LS → Prop) (hK : KOk S 0 _ _ _ K) => ?_
    | refine sw_goD kp182 (by kernel_rfl) fun K hK => ?_
    | ((first | refine runL_go ?_ | refine runQ_go ?_); simp (disch := (refine Om.mk ?_; omega)) only [go_sem])
    | (refine hK.nil ?_; clear hK K; simp only [go_sem])
    | (refine runG_fork rfl rfl rfl rfl rfl (fun h => ?_) (fun h => ?_) <;> (try simp (disch := (refine Om.mk ?_; omega)) only [go_sem] at h))
    | (refine runQG_fork rfl rfl rfl rfl rfl (fun h => ?_) (fun h => ?_) <;> (try simp (disch := (refine Om.mk ?_; omega)) only [go_sem] at h))
    | (refine hK.skip rfl (by simp only [dstOk, Nat.reduceLT]) ?_)
    | (refine sw_cond rfl (fun h => ?_) (fun h => ?_) <;> (try simp (disch := (refine Om.mk ?_; omega)) only [go_sem] at h))
    | (refine sw_exit rfl ?_)
    | (refine sw_loopEnd ?_)
    | ((first | refine sw_ret (ret0 ?_) | refine sw_ret ?_); simp (disch := (refine Om.mk ?_; omega)) only [go_sem, Try.results182])
    | refine hK.call rfl rfl rfl (arityAtX_fc _ _ _ ⟨by omega, by omega⟩) ⟨(by intro p hp; cases hp), rfl, rfl, (by simp only [dstOk, Nat.reduceLT])⟩ ?_
    | (refine hK.fork rfl rfl rfl (fun h => ?_) (fun h => ?_) <;> (try simp (disch := (refine Om.mk ?_; omega)) only [go_sem] at h))
    | (with_reducible refine And.intro (by first | omega | (simp only [List.length_append, List.length_take, List.length_drop, List.length_cons, List.length_nil, List.length_map]; omega)) ?_)
    | ((with_reducible refine And.intro ?_ ?_); · first | (intro x hx; subst hx; rfl) | exact upR_mem fun _ _ => rfl | exact mapR_mem fun _ _ => rfl | (intro x; refine And.intro ?_ ?_ <;> (intros; subst_vars; rfl)))
    | fail
  · have e : nxS rs (phiL t) a = -1 := if_neg (by omega)
    simp [e]
  · have e : nxS rs (phiL t) a = -1 := by rw [nxS, if_pos (by omega), hp (by omega), hpos (by omega), arS_none (by omega) (by omega)]
    simp [e]
  · have e : nxS rs (phiL t) a = arS rs (phi (t.getD a default)) := by rw [nxS, if_pos (by omega), hp (by omega)]
    have h0 : 0 ≤ arS rs (phi (t.getD a default)) := by
      by_cases hn : t.getD a default < 0
      · rw [arS_var (by unfold phi; split <;> omega)]; omega
      · rw [hpos (by omega), arS_sym (by omega)]; exact (hs.2 _ (by omega)).1
    rw [if_neg (by omega)]
    exact ⟨e.symm, by simp⟩
theorem skipX_fc (id : Nat) (rs t : List Int) (a : Nat) (hs : SigOkP rs) (ht : ∀ x ∈ t, -48 ≤ x) (hl : t.length ≤ 60) : FC S 171 [] [(id, [.sl .any (rs.map (.int .i64)), .sl .any (t.map (.int .i64)), .int .i64 a])] [] [.box id 0] (.bool (skipS rs ((phiL t).drop a) 1 a).2) [(id, [.sl .any (rs.map (.int .i64)), .sl .any (t.map (.int .i64)), .int .i64 (skipS rs ((phiL t).drop a) 1 a).1])] [] := by
  have hlen := phiL_len t
  refine fc_body Try.func171 rfl (by kernel_rfl) (by simp [Try.f171]) fun B => ?_
  simp only [Try.ntmps171, enumD, List.map_nil, List.map_cons, List.length_map, Nat.zero_add, Nat.reduceAdd]
  refine sw_bnd_box id 1 (if_pos rfl) rfl fun hbid_1 => ?_
  simp only [D.bnd, List.length_map] at hbid_1
  repeat' first
    | exact Bool.noConfusion h
    | refine sw_seq ?_
    | refine sw_block ?_
    | refine sw_skip ?_
    | refine sw_inBlock ?_
    | refine sw_go 0 kp171 fun K hK => ?_
    | refine fun (K : List Oper → LS → Prop) (hK : KOk S 0 _ _ _ K) => ?_
    | ((first | refine runL_go ?_ | refine runQ_go ?_); simp (disch := (refine Om.mk ?_; omega)) only [go_sem])
    | (refine hK.nil ?_; clear hK K; simp only [go_sem])
    | (refine sw_cond rfl (fun h => ?_) (fun h => ?_) <;> (try simp (disch := (refine Om.mk ?_; omega)) only [go_sem] at h))
    | (refine sw_exit rfl ?_)
    | (refine sw_loopEnd ?_)
    | ((first | refine sw_ret (ret0 ?_) | refine sw_ret ?_); simp (disch := (refine Om.mk ?_; omega)) only [go_sem, Try.results171])
    | (with_reducible refine And.intro (by first | omega | (simp only [List.length_append, List.length_take, List.length_drop, List.length_cons, List.length_nil, List.length_map]; omega)) ?_)
    | ((with_reducible refine And.intro ?_ ?_); · first | (intro x hx; subst hx; rfl) | exact upR_mem fun _ _ => rfl | exact mapR_mem fun _ _ => rfl | (intro x; refine And.intro ?_ ?_ <;> (intros; subst_vars; rfl)))
    | fail
  refine sw_loopU (ι := Nat × Int) (fun p => [(3, .int .i64 p.2)]) (fun p => [(id, [.sl .any (rs.map (.int .i64)), .sl .any (t.map (.int .i64)), .int .i64 p.1])]) (fun p => (a ≤ p.1 ∧ ((1 ≤ p.2 ∧ skipS rs ((phiL t).drop a) 1 a = skipS rs ((phiL t).drop p.1) p.2 p.1) ∨ (p.2 = 0 ∧ skipS rs ((phiL t).drop a) 1 a = (p.1, true)))) ∧ p.2 ≤ 1 + 3 * p.1) (fun p => t.length - p.1) (a, 1) (by (refine covers_mk0 rfl rfl ?_ ?_ ?_ ?_ <;> simp (disch := (refine Om.mk ?_; omega)) only [go_sem] <;> (try omega))) ?_ (fun p hp => ?_)
  rotate_left
  simp only [go_sem]
  obtain ⟨i, need⟩ := p
  obtain ⟨⟨h1, h2⟩, h4⟩ := hp
  dsimp only at h1 h2 h4
  have hr := arS_rng hs ((phiL t).getD i default)
  have hn : nxS rs (phiL t) i ≤ 3 := by unfold nxS; split <;> omega
  have hb : i < (phiL t).length → skipS rs ((phiL t).drop i) need i = _ := skip_step rs (phiL t) need i
  repeat' first
    | exact Bool.noConfusion h
    | refine sw_seq ?_
    | refine sw_block ?_
    | refine sw_skip ?_
    | refine sw_inBlock ?_
    | refine sw_go 0 kp171 fun K hK => ?_
    | refine fun (K : List Oper → LS → Prop) (hK : KOk S 0 _ _ _ K) => ?_
    | ((first | refine runL_go ?_ | refine runQ_go ?_); simp (disch := (refine Om.mk ?_; omega)) only [go_sem])
    | (refine hK.nil ?_; clear hK K; simp only [go_sem])
    | (refine sw_cond rfl (fun h => ?_) (fun h => ?_) <;> (try simp (disch := (refine Om.mk ?_; omega)) only [go_sem] at h))
    | (refine sw_exit rfl ?_)
    | (refine sw_loopEnd ?_)
    | ((first | refine sw_ret (ret0 ?_) | refine sw_ret ?_); simp (disch := (refine Om.mk ?_; omega)) only [go_sem, Try.results171])
    | (refine hK.callB rfl rfl rfl (nextX_fc id rs t i hs ht) ⟨⟨by simp only [Nat.reduceLT], (by first | (simp; all_goals fail) | (simp [LS.getBox, Lg.look]; all_goals fail)), by (simp [Lg.look]; all_goals fail), by (simp; all_goals fail), by (simp; all_goals fail)⟩, ⟨by (simp [D.ids, D.idsL]; all_goals fail), by (simp [D.ids, D.idsL]; all_goals fail), by (simp [D.tks, D.tksL]; all_goals fail), by (simp [D.tks, D.tksL]; all_goals fail), by (simp; all_goals fail)⟩, rfl⟩ ?_; simp (disch := (refine Om.mk ?_; omega)) only [go_sem])
    | (with_reducible refine And.intro (by first | omega | (simp only [List.length_append, List.length_take, List.length_drop, List.length_cons, List.length_nil, List.length_map]; omega)) ?_)
    | ((with_reducible refine And.intro ?_ ?_); · first | (intro x hx; subst hx; rfl) | exact upR_mem fun _ _ => rfl | exact mapR_mem fun _ _ => rfl | (intro x; refine And.intro ?_ ?_ <;> (intros; subst_vars; rfl)))
    | fail
  · have e : i < t.length → nxS rs (phiL t) i = arS rs ((phiL t).getD i default) := fun h => if_pos (by omega)
    rcases h2 with ⟨h2, h3⟩ | ⟨h2, h3⟩
    · rw [h3]
      by_cases hi : i < t.length
      · rw [hb (by omega), if_pos (by rw [← e hi]; assumption), if_pos (by assumption)]; simp
      · rw [skip_end rs (phiL t) need i (by omega), if_pos (by assumption)]; simp
    · omega
  · have hi : i < t.length := by
      by_cases hi : i < t.length
      · exact hi
      · have : nxS rs (phiL t) i = -1 := if_neg (by omega)
        omega
    have e : nxS rs (phiL t) i = arS rs ((phiL t).getD i default) := if_pos (by omega)
    refine ⟨(i + 1, need + nxS rs (phiL t) i - 1), (by (refine covers_mk0 rfl rfl ?_ ?_ ?_ ?_ <;> simp (disch := (refine Om.mk ?_; omega)) only [go_sem] <;> (try omega)); rw [if_neg (by omega)]), ⟨⟨by omega, ?_⟩, by omega⟩, by omega⟩
    rcases h2 with ⟨h2, h3⟩ | ⟨h2, h3⟩
    · rw [h3, hb (by omega), if_neg (by omega), ← e]
      by_cases hz : need + nxS rs (phiL t) i - 1 = 0
      · rw [if_pos hz]; exact .inr ⟨hz, rfl⟩
      · rw [if_neg hz]; exact .inl ⟨by dsimp only; omega, rfl⟩
    · omega
  · rcases h2 with ⟨h2, h3⟩ | ⟨h2, h3⟩
    · omega
    · rw [h3]; simp
  · exact ⟨⟨by omega, .inl ⟨by omega, rfl⟩⟩, by omega⟩
theorem endAtX_fc (tk tk' : Tk) (rs t : List Int) (a : Int) (hs : SigOkP rs) (ht : ∀ x ∈ t, -48 ≤ x) (hl : t.length ≤ 60) (ha : 0 ≤ a) : FC S 145 [] [] [] [.agg [.sl tk (rs.map (.int .i64))], .sl tk' (t.map (.int .i64)), .int .i64 a] (.int .i64 (endS rs (phiL t) a.toNat)) [] [] := by
  obtain ⟨a, rfl⟩ := Int.eq_ofNat_of_zero_le ha
  refine FC.args (args' := [.agg [.sl .any (rs.map (.int .i64))], .sl .any (t.map (.int .i64)), .int .i64 a]) ?_ (by simp only [go_sem])
  refine fc_body Try.func145 rfl (by kernel_rfl) (by simp [Try.f145]) fun B => ?_
  simp only [Try.ntmps145, enumD, List.map_nil, List.map_cons, List.length_map, Nat.zero_add, Nat.reduceAdd]
  repeat' first
    | exact Bool.noConfusion h
    | refine sw_seq ?_
    | refine sw_block ?_
    | refine sw_skip ?_
    | refine sw_inBlock ?_
    | refine sw_go 0 kp145 fun K hK => ?_
    | refine fun (K : List Oper → LS → Prop) (hK : KOk S 0 _ _ _ K) => ?_
    | ((first | refine runL_go ?_ | refine runQ_go ?_); simp (disch := (refine Om.mk ?_; omega)) only [go_sem])
    | (refine hK.nil ?_; clear hK K; simp only [go_sem])
    | (refine sw_cond rfl (fun h => ?_) (fun h => ?_) <;> (try simp (disch := (refine Om.mk ?_; omega)) only [go_sem] at h))
    | (refine sw_exit rfl ?_)
    | (refine sw_loopEnd ?_)
    | ((first | refine sw_ret (ret0 ?_) | refine sw_ret ?_); simp (disch := (refine Om.mk ?_; omega)) only [go_sem, Try.results145])
    | (refine hK.callB rfl rfl rfl (skipX_fc 7 rs t a hs ht hl) ⟨⟨by simp only [Nat.reduceLT], (by first | (simp; all_goals fail) | (simp [LS.getBox, Lg.look]; all_goals fail)), by (simp [Lg.look]; all_goals fail), by (simp; all_goals fail), by (simp; all_goals fail)⟩, ⟨by (simp [D.ids, D.idsL]; all_goals fail), by (simp [D.ids, D.idsL]; all_goals fail), by (simp [D.tks, D.tksL]; all_goals fail), by (simp [D.tks, D.tksL]; all_goals fail), by (simp; all_goals fail)⟩, rfl⟩ ?_; simp (disch := (refine Om.mk ?_; omega)) only [go_sem])
    | (with_reducible refine And.intro (by first | omega | (simp only [List.length_append, List.length_take, List.length_drop, List.length_cons, List.length_nil, List.length_map]; omega)) ?_)
    | ((with_reducible refine And.intro ?_ ?_); · first | (intro x hx; subst hx; rfl) | exact upR_mem fun _ _ => rfl | exact mapR_mem fun _ _ => rfl | (intro x; refine And.intro ?_ ?_ <;> (intros; subst_vars; rfl)))
    | fail
  all_goals first | (rw [endS, skip_scan, h]; rfl)
theorem subAtX_fc (tk tk' : Tk) (rs t : List Int) (a : Nat) (hT : XT rs t) (ha : a < t.length) : FC S 134 [] [] [] [.agg [.sl tk (rs.map (.int .i64))], .sl tk' (t.map (.int .i64)), .int .i64 a] (.sl .any ((subX rs t a).map (.int .i64))) [] [] := by
  have he := endS_ge hT.1 (a := a) (by rw [phiL_len]; exact ha)
  rw [phiL_len] at he
  have hl := hT.len.2
  refine fc_body Try.func134 rfl (by kernel_rfl) (by simp [Try.f134]) fun B => ?_
  simp only [Try.ntmps134, enumD, List.map_nil, List.map_cons, List.length_map, Nat.zero_add, Nat.reduceAdd]
  refine sw_bnd 1 rfl fun hb1 => ?_
  simp only [D.bnd, List.length_map] at hb1
  repeat' first
    | exact Bool.noConfusion h
    | refine sw_seq ?_
    | refine sw_block ?_
    | refine sw_skip ?_
    | refine sw_inBlock ?_
    | refine sw_go 0 kp134 fun K hK => ?_
    | refine fun (K : List Oper → LS → Prop) (hK : KOk S 0 _ _ _ K) => ?_
    | ((first | refine runL_go ?_ | refine runQ_go ?_); simp (disch := (refine Om.mk ?_; omega)) only [go_sem])
    | (refine hK.nil ?_; clear hK K; simp only [go_sem])
    | (refine sw_cond rfl (fun h => ?_) (fun h => ?_) <;> (try simp (disch := (refine Om.mk ?_; omega)) only [go_sem] at h))
    | (refine sw_exit rfl ?_)
    | (refine sw_loopEnd ?_)
    | ((first | refine sw_ret (ret0 ?_) | refine sw_ret ?_); simp (disch := (refine Om.mk ?_; omega)) only [go_sem, Try.results134])
    | refine hK.call rfl rfl rfl (endAtX_fc _ _ rs t a hT.1.1 hT.2 hl (by omega)) ⟨(by intro p hp; cases hp), rfl, rfl, (by simp only [dstOk, Nat.reduceLT])⟩ ?_
    | (with_reducible refine And.intro (by first | omega | (simp only [List.length_append, List.length_take, List.length_drop, List.length_cons, List.length_nil, List.length_map]; omega)) ?_)
    | ((with_reducible refine And.intro ?_ ?_); · first | (intro x hx; subst hx; rfl) | exact upR_mem fun _ _ => rfl | exact mapR_mem fun _ _ => rfl | (intro x; refine And.intro ?_ ?_ <;> (intros; subst_vars; rfl)))
    | fail
  rfl
theorem argsAtX_fc (tk tk' : Tk) (rs t : List Int) (a : Nat) (hT : XT rs t) (ha : a < t.length) : FC S 133 [] [] [] [.agg [.sl tk (rs.map (.int .i64))], .sl tk' (t.map (.int .i64)), .int .i64 a] (.sl .any ((argsS rs (phiL t) a).map natD)) [] [] := by
  have hl := hT.len.2
  have ha' : a < (phiL t).length := by rw [phiL_len]; exact ha
  have hlo := hT.1.low ha'
  have hg := hT.get ha
  obtain ⟨n, hn⟩ : ∃ n : Nat, arS rs ((phiL t).getD a default) = n := ⟨(arS rs ((phiL t).getD a default)).toNat, by omega⟩
  have hlt : ∀ j < n, a < nthB rs (phiL t) (a + 1) j ∧ nthB rs (phiL t) (a + 1) j < (phiL t).length := fun j hj => nthB_lt hT.1 ha' (by omega)
  have hle : ∀ j ≤ n, a < nthB rs (phiL t) (a + 1) j ∧ nthB rs (phiL t) (a + 1) j ≤ (phiL t).length := fun j hj => nthB_le hT.1 ha' (by omega)
  unfold argsS
  have hn2 := hn
  rw [phiL_get t a ha] at hn2
  rw [hn, Int.toNat_natCast]
  have hlen := phiL_len t
  refine FC.args (args' := [.agg [.sl .any (rs.map (.int .i64))], .sl .any (t.map (.int .i64)), .int .i64 a]) ?_ (by simp only [go_sem])
  refine fc_body Try.func133 rfl (by kernel_rfl) (by simp [Try.f133]) fun B => ?_
  simp only [Try.ntmps133, enumD, List.map_nil, List.map_cons, List.length_map, Nat.zero_add, Nat.reduceAdd]
  refine sw_bnd 1 rfl fun hb1 => ?_
  simp only [D.bnd, List.length_map] at hb1
  repeat' first
    | exact Bool.noConfusion h
    | refine sw_seq ?_
    | refine sw_block ?_
    | refine sw_skip ?_
    | refine sw_inBlock ?_
    | refine sw_go 0 kp133 fun K hK => ?_
    | refine fun (K : List Oper → LS → Prop) (hK : KOk S 0 _ _ _ K) => ?_
    | refine sw_goD kp133 (by kernel_rfl) fun K hK => ?_
    | ((first | refine runL_go ?_ | refine runQ_go ?_); simp (disch := (refine Om.mk ?_; omega)) only [go_sem])
    | (refine hK.nil ?_; clear hK K; simp only [go_sem])
    | (refine sw_cond rfl (fun h => ?_) (fun h => ?_) <;> (try simp (disch := (refine Om.mk ?_; omega)) only [go_sem] at h))
    | (refine sw_exit rfl ?_)
    | (refine sw_loopEnd ?_)
    | ((first | refine sw_ret (ret0 ?_) | refine sw_ret ?_); simp (disch := (refine Om.mk ?_; omega)) only [go_sem, Try.results133])
    | refine hK.call rfl rfl rfl (arityAtX_fc _ rs _ hg) ⟨(by intro p hp; cases hp), rfl, rfl, (by simp only [dstOk, Nat.reduceLT])⟩ ?_
    | (with_reducible refine And.intro (by first | omega | (simp only [List.length_append, List.length_take, List.length_drop, List.length_cons, List.length_nil, List.length_map]; omega)) ?_)
    | ((with_reducible refine And.intro ?_ ?_); · first | (intro x hx; subst hx; rfl) | exact upR_mem fun _ _ => rfl | exact mapR_mem fun _ _ => rfl | (intro x; refine And.intro ?_ ?_ <;> (intros; subst_vars; rfl)))
    | fail
  rw [hn2]
  refine sw_tok 7 26000 3 1 rfl (.inl rfl) rfl ?_
  simp only [go_sem]
  refine sw_loopT (ι := Nat) (fun j => [(9, .int .i64 (n - j : Int)), (8, .int .i64 (nthB rs (phiL t) (a + 1) j)), (7, .sl (.own 26000 3 1) ((begS rs (phiL t) j (a + 1)).map natD))]) (fun _ => []) (fun _ => [26000]) (fun j => j ≤ n) (fun j => n - j) 0 (by (refine covers_mk0 rfl rfl ?_ ?_ ?_ ?_ <;> simp (disch := (refine Om.mk ?_; omega)) only [go_sem] <;> (try omega)); simp [nthB, begS]) (by omega) (fun j hj => ?_)
  simp only [go_sem]
  have hb := begS_length rs (phiL t) j (a + 1)
  have h3 := hle j hj
  have h4 := hlt j
  have h5 : j < n → ((endS rs (phiL t) (nthB rs (phiL t) (a + 1) j)).toNat : Int) = endS rs (phiL t) (nthB rs (phiL t) (a + 1) j) := fun hj => by have := endS_ge hT.1 (h4 hj).2; omega
  repeat' first
    | exact Bool.noConfusion h
    | refine sw_seq ?_
    | refine sw_block ?_
    | refine sw_skip ?_
    | refine sw_inBlock ?_
    | refine sw_go 0 kp133 fun K hK => ?_
    | refine fun (K : List Oper → LS → Prop) (hK : KOk S 0 _ _ _ K) => ?_
    | refine sw_goD kp133 (by kernel_rfl) fun K hK => ?_
    | ((first | refine runL_go ?_ | refine runQ_go ?_); simp (disch := (refine Om.mk ?_; omega)) only [go_sem])
    | (refine hK.nil ?_; clear hK K; simp only [go_sem])
    | (refine sw_cond rfl (fun h => ?_) (fun h => ?_) <;> (try simp (disch := (refine Om.mk ?_; omega)) only [go_sem] at h))
    | (refine sw_exit rfl ?_)
    | (refine sw_loopEnd ?_)
    | ((first | refine sw_ret (ret0 ?_) | refine sw_ret ?_); simp (disch := (refine Om.mk ?_; omega)) only [go_sem, Try.results133])
    | refine hK.call rfl rfl rfl (endAtX_fc _ _ rs t (nthB rs (phiL t) (a + 1) j) hT.1.1 hT.2 hl (by omega)) ⟨(by intro p hp; cases hp), rfl, rfl, (by simp only [dstOk, Nat.reduceLT])⟩ ?_
    | (with_reducible refine And.intro (by first | omega | (simp only [List.length_append, List.length_take, List.length_drop, List.length_cons, List.length_nil, List.length_map]; omega)) ?_)
    | ((with_reducible refine And.intro ?_ ?_); · first | (intro x hx; subst hx; rfl) | exact upR_mem fun _ _ => rfl | exact mapR_mem fun _ _ => rfl | (intro x; refine And.intro ?_ ?_ <;> (intros; subst_vars; rfl)))
    | fail
  · refine ⟨j + 1, (by (refine covers_mk0 rfl rfl ?_ ?_ ?_ ?_ <;> simp (disch := (refine Om.mk ?_; omega)) only [go_sem] <;> (try omega)); have := h5 (by omega); simp only [nthB, begS_snoc, List.map_append, List.map_cons, List.map_nil, natD]; exact ⟨trivial, this.symm, by omega⟩), by omega, by omega⟩
  · rw [show j = n by omega]
end Go.Proofs.Ytlcdahaihlflaaa
