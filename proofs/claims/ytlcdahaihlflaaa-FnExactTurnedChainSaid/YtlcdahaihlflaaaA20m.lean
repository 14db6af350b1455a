/-
  Moves along equations: MoveOk, ChainOk of both sides; a chain's end.
-/
import Derived.Test.YtlcdahaihlflaaaA04
import Derived.Test.YtlcdahaihlflaaaA20
namespace Go.Proofs.Ytlcdahaihlflaaa
open Go Go.Lg
set_option linter.unusedSimpArgs false
set_option linter.unusedVariables false
set_option maxHeartbeats 4000000
attribute [local irreducible] SW runL runQ runG runQG FC Ret1
theorem bool_tst' {b : Bool} {p : Prop} (h : b = true ↔ p) : b = tst p := by
  cases b with
  | true => exact (tst_true (h.1 rfl)).symm
  | false => exact (tst_false fun hp => by cases h.2 hp).symm
/-- one pattern, then another, matched into two terms -/
def fitP (rs f t o v : List Int) : Prop := (linM rs t f 0 G0).2 = true ∧ (linM rs v o 0 (linM rs t f 0 G0).1).2 = true
theorem fit_spec {rs f t o v : List Int} (hf : TermOkP rs f) (ho : TermOkP rs o) (ht : TermOkP rs t) (hv : TermOkP rs v) :
    ((specM rs 60 G0 f t).2 = true ∧ (specM rs 60 (specM rs 60 G0 f t).1 o v).2 = true) ↔ fitP rs f t o v := by
  obtain ⟨h1, h2⟩ := specM_lin G0 hf ht hf.2.1.2
  obtain ⟨h3, _⟩ := specM_lin (specM rs 60 G0 f t).1 ho hv ho.2.1.2
  unfold fitP
  constructor
  · rintro ⟨k1, k2⟩
    rw [h2 k1] at h3 k2
    exact ⟨by rw [← h1]; exact k1, by rw [← h3]; exact k2⟩
  · rintro ⟨k1, k2⟩
    have k1' : (specM rs 60 G0 f t).2 = true := by rw [h1]; exact k1
    exact ⟨k1', by rw [h3, h2 k1']; exact k2⟩
attribute [local go_sem] idsL_opt tksL_opt nilY_tkN take_full all_opt linM_len putC_opt
def MoveInP (rs : List Int) (es : List EqT) (t : List Int) (m : MoveT) : Prop := (0 ≤ m.eq ∧ m.eq < es.length) ∧ (0 ≤ m.at_ ∧ m.at_ < t.length) ∧ TermOkP rs m.to ∧ m.at_ < m.to.length
def fromL (es : List EqT) (m : MoveT) : List Int := if m.back = true then (es.getD m.eq.toNat default).r else (es.getD m.eq.toNat default).l
def toL (es : List EqT) (m : MoveT) : List Int := if m.back = true then (es.getD m.eq.toNat default).l else (es.getD m.eq.toNat default).r
def MoveP (rs : List Int) (es : List EqT) (t : List Int) (m : MoveT) : Prop := MoveInP rs es t m ∧ putS rs t m.at_.toNat (subS rs m.to m.at_.toNat) = m.to ∧ fitP rs (fromL es m) (subS rs t m.at_.toNat) (toL es m) (subS rs m.to m.at_.toNat)
theorem move_leaf {rs : List Int} {es : List EqT} {t to : List Int} {e a : Nat} {bk : Bool} (h : MoveInP rs es t ⟨e, a, bk, to⟩) {f o : List Int} (hf : fromL es ⟨e, a, bk, to⟩ = f) (ho : toL es ⟨e, a, bk, to⟩ = o) :
    MoveP rs es t ⟨e, a, bk, to⟩ ↔ putS rs t a (subS rs to a) = to ∧ fitP rs f (subS rs t a) o (subS rs to a) := by
  subst hf; subst ho
  exact ⟨fun h => h.2, fun h' => ⟨h, h'⟩⟩
def kp95 : List (Nat × List Nat) := [(0, [1, 2, 4, 7]), (1, [1, 2, 4, 7, 48]), (2, [8]), (3, [1, 2, 4, 7, 9]), (4, [1, 2, 4, 7, 9, 10]), (5, [1, 2, 4, 7, 9, 10, 62]), (6, [1, 2, 4, 7, 9]), (7, [2, 4, 7, 9, 10]), (8, [2, 4, 7, 9, 10, 11]), (9, [2, 4, 7, 9, 10, 11, 12, 13]), (10, [2, 4, 7, 9, 10, 11, 98]), (11, [8]), (12, [4, 10, 11, 14, 15]), (13, [4, 10, 11, 14, 112]), (14, [8]), (15, [17]), (16, [8])]
attribute [go_sem] kp95
theorem l20Move1_fc (rs : List Int) (es : List EqT) (t to : List Int) (e a : Nat) (bk : Bool) (hE : EqsOkP rs es) (hT : TermOkP rs t) (hm : MoveInP rs es t ⟨e, a, bk, to⟩) : FC S 95 [] [] [] [.agg [.sl .any (rs.map (.int .i64))], .sl .any (es.map EqD), .sl .any (t.map (.int .i64)), MoveD ⟨e, a, bk, to⟩] (.bool (tst (MoveP rs es t ⟨e, a, bk, to⟩))) [] [] := by
  have htl := hT.2.1
  have hel := hE.1.2
  obtain ⟨⟨_, e1⟩, ⟨_, a1⟩, hto, a2⟩ := id hm
  dsimp only at e1 a1 hto a2
  have hee := hE.2 e (by omega)
  have hs1 := subS_ok hto (a := a) (by omega)
  have hs2 := subS_ok hT (a := a) (by omega)
  have htol := hto.2.1
  have hput : ¬ (putS rs t a (subS rs to a)).length ≤ 60 → ¬ putS rs t a (subS rs to a) = to := fun h e => h (by rw [e]; omega)
  have hpr : (putS rs t a (subS rs to a)).length ≤ 60 → putR rs t a (subS rs to a) = putS rs t a (subS rs to a) := putR_yes
  cases bk with
  | true =>
    rw [tst_congr (move_leaf hm (f := (es.getD e default).r) (o := (es.getD e default).l) rfl rfl), ← fit_spec hee.2 hee.1 hs2 hs1]
    have l1 := specM_len rs 60 G0 (es.getD e default).r (subS rs t a)
    refine fc_body Try.func95 rfl (by kernel_rfl) (by simp [Try.f95]) fun B => ?_
    simp only [Try.ntmps95, enumD, List.map_nil, List.map_cons, List.length_map, Nat.zero_add, Nat.reduceAdd]
    repeat' first
      | exact Bool.noConfusion h
      | refine sw_seq ?_
      | refine sw_block ?_
      | refine sw_skip ?_
      | refine sw_inBlock ?_
      | refine sw_go 0 kp95 fun K hK => ?_
      | refine fun (K : List Oper → LS → Prop) (hK : KOk S 0 _ _ _ K) => ?_
      | refine sw_goD kp95 (by kernel_rfl) fun K hK => ?_
      | ((first | refine runL_go ?_ | refine runQ_go ?_); simp (disch := (refine Om.mk ?_; omega)) only [go_sem])
      | (refine hK.nil ?_; clear hK K; simp only [go_sem])
      | (refine runG_fork rfl rfl rfl rfl rfl (fun h => ?_) (fun h => ?_) <;> (try simp (disch := (refine Om.mk ?_; omega)) only [go_sem] at h))
      | (refine runQG_fork rfl rfl rfl rfl rfl (fun h => ?_) (fun h => ?_) <;> (try simp (disch := (refine Om.mk ?_; omega)) only [go_sem] at h))
      | (refine hK.skip rfl (by simp only [dstOk, Nat.reduceLT]) ?_)
      | (refine sw_cond rfl (fun h => ?_) (fun h => ?_) <;> (try simp (disch := (refine Om.mk ?_; omega)) only [go_sem] at h))
      | (refine sw_exit rfl ?_)
      | (refine sw_loopEnd ?_)
      | ((first | refine sw_ret (ret0 ?_) | refine sw_ret ?_); simp (disch := (refine Om.mk ?_; omega)) only [go_sem, Try.results95])
      | refine hK.call rfl rfl rfl (l1In_fc _ _ _) ⟨(by intro p hp; cases hp), rfl, rfl, (by simp only [dstOk, Nat.reduceLT])⟩ ?_
      | refine hK.call rfl rfl rfl (specTermOk_fc _ _ rs to) ⟨(by intro p hp; cases hp), rfl, rfl, (by simp only [dstOk, Nat.reduceLT])⟩ ?_
      | refine hK.call rfl rfl rfl (specSubAt_fc _ _ rs to a hto (by omega)) ⟨(by intro p hp; cases hp), rfl, rfl, (by simp only [dstOk, Nat.reduceLT])⟩ ?_
      | refine hK.call rfl rfl rfl (specPutAt_fc _ _ _ rs t (subS rs to a) a hT (by omega) hs1) ⟨(by intro p hp; cases hp), rfl, rfl, (by simp only [dstOk, Nat.reduceLT])⟩ ?_
      | refine hK.call rfl rfl rfl (specSameTerm_fc _ _ _ _) ⟨(by intro p hp; cases hp), rfl, rfl, (by simp only [dstOk, Nat.reduceLT])⟩ ?_
      | refine hK.call rfl rfl rfl (specSubAt_fc _ _ rs t a hT (by omega)) ⟨(by intro p hp; cases hp), rfl, rfl, (by simp only [dstOk, Nat.reduceLT])⟩ ?_
      | refine hK.call rfl rfl rfl (l20Match_fc rs 60 .any .any .any .any G0 (es.getD e default).r (subS rs t a) hee.2 hs2 rfl hee.2.2.1.2) ⟨(by intro p hp; cases hp), rfl, rfl, (by simp only [dstOk, Nat.reduceLT])⟩ ?_
      | refine hK.call rfl rfl rfl (l20Match_fc rs 60 .any .any .any .any _ (es.getD e default).l (subS rs to a) hee.1 hs1 l1 hee.1.2.1.2) ⟨(by intro p hp; cases hp), rfl, rfl, (by simp only [dstOk, Nat.reduceLT])⟩ ?_
      | (refine hK.fork rfl rfl rfl (fun h => ?_) (fun h => ?_) <;> (try simp (disch := (refine Om.mk ?_; omega)) only [go_sem] at h))
      | (with_reducible refine And.intro (by first | omega | (simp only [List.length_append, List.length_take, List.length_drop, List.length_cons, List.length_nil, List.length_map]; omega)) ?_)
      | ((with_reducible refine And.intro ?_ ?_); · first | (intro x hx; subst hx; rfl) | exact upR_mem fun _ _ => rfl | exact mapR_mem fun _ _ => rfl | (intro x; refine And.intro ?_ ?_ <;> (intros; subst_vars; rfl)))
      | fail
    all_goals first
      | (exfalso; omega)
      | (exact absurd hto (by assumption))
      | (intro h'; exact hput (by assumption) h'.1)
      | (intro h'; rw [hpr (by assumption)] at *; exact absurd h'.1 (by assumption))
      | (intro h'; have h2 := h'.2.1; simp_all; done)
      | (rw [hpr (by assumption)] at *; exact bool_tst' ⟨fun h4 => ⟨by assumption, by assumption, h4⟩, fun h4 => h4.2.2⟩)
  | false =>
    rw [tst_congr (move_leaf hm (f := (es.getD e default).l) (o := (es.getD e default).r) rfl rfl), ← fit_spec hee.1 hee.2 hs2 hs1]
    have l1 := specM_len rs 60 G0 (es.getD e default).l (subS rs t a)
    refine fc_body Try.func95 rfl (by kernel_rfl) (by simp [Try.f95]) fun B => ?_
    simp only [Try.ntmps95, enumD, List.map_nil, List.map_cons, List.length_map, Nat.zero_add, Nat.reduceAdd]
    repeat' first
      | exact Bool.noConfusion h
      | refine sw_seq ?_
      | refine sw_block ?_
      | refine sw_skip ?_
      | refine sw_inBlock ?_
      | refine sw_go 0 kp95 fun K hK => ?_
      | refine fun (K : List Oper → LS → Prop) (hK : KOk S 0 _ _ _ K) => ?_
      | refine sw_goD kp95 (by kernel_rfl) fun K hK => ?_
      | ((first | refine runL_go ?_ | refine runQ_go ?_); simp (disch := (refine Om.mk ?_; omega)) only [go_sem])
      | (refine hK.nil ?_; clear hK K; simp only [go_sem])
      | (refine runG_fork rfl rfl rfl rfl rfl (fun h => ?_) (fun h => ?_) <;> (try simp (disch := (refine Om.mk ?_; omega)) only [go_sem] at h))
      | (refine runQG_fork rfl rfl rfl rfl rfl (fun h => ?_) (fun h => ?_) <;> (try simp (disch := (refine Om.mk ?_; omega)) only [go_sem] at h))
      | (refine hK.skip rfl (by simp only [dstOk, Nat.reduceLT]) ?_)
      | (refine sw_cond rfl (fun h => ?_) (fun h => ?_) <;> (try simp (disch := (refine Om.mk ?_; omega)) only [go_sem] at h))
      | (refine sw_exit rfl ?_)
      | (refine sw_loopEnd ?_)
      | ((first | refine sw_ret (ret0 ?_) | refine sw_ret ?_); simp (disch := (refine Om.mk ?_; omega)) only [go_sem, Try.results95])
      | refine hK.call rfl rfl rfl (l1In_fc _ _ _) ⟨(by intro p hp; cases hp), rfl, rfl, (by simp only [dstOk, Nat.reduceLT])⟩ ?_
      | refine hK.call rfl rfl rfl (specTermOk_fc _ _ rs to) ⟨(by intro p hp; cases hp), rfl, rfl, (by simp only [dstOk, Nat.reduceLT])⟩ ?_
      | refine hK.call rfl rfl rfl (specSubAt_fc _ _ rs to a hto (by omega)) ⟨(by intro p hp; cases hp), rfl, rfl, (by simp only [dstOk, Nat.reduceLT])⟩ ?_
      | refine hK.call rfl rfl rfl (specPutAt_fc _ _ _ rs t (subS rs to a) a hT (by omega) hs1) ⟨(by intro p hp; cases hp), rfl, rfl, (by simp only [dstOk, Nat.reduceLT])⟩ ?_
      | refine hK.call rfl rfl rfl (specSameTerm_fc _ _ _ _) ⟨(by intro p hp; cases hp), rfl, rfl, (by simp only [dstOk, Nat.reduceLT])⟩ ?_
      | refine hK.call rfl rfl rfl (specSubAt_fc _ _ rs t a hT (by omega)) ⟨(by intro p hp; cases hp), rfl, rfl, (by simp only [dstOk, Nat.reduceLT])⟩ ?_
      | refine hK.call rfl rfl rfl (l20Match_fc rs 60 .any .any .any .any G0 (es.getD e default).l (subS rs t a) hee.1 hs2 rfl hee.1.2.1.2) ⟨(by intro p hp; cases hp), rfl, rfl, (by simp only [dstOk, Nat.reduceLT])⟩ ?_
      | refine hK.call rfl rfl rfl (l20Match_fc rs 60 .any .any .any .any _ (es.getD e default).r (subS rs to a) hee.2 hs1 l1 hee.2.2.1.2) ⟨(by intro p hp; cases hp), rfl, rfl, (by simp only [dstOk, Nat.reduceLT])⟩ ?_
      | (refine hK.fork rfl rfl rfl (fun h => ?_) (fun h => ?_) <;> (try simp (disch := (refine Om.mk ?_; omega)) only [go_sem] at h))
      | (with_reducible refine And.intro (by first | omega | (simp only [List.length_append, List.length_take, List.length_drop, List.length_cons, List.length_nil, List.length_map]; omega)) ?_)
      | ((with_reducible refine And.intro ?_ ?_); · first | (intro x hx; subst hx; rfl) | exact upR_mem fun _ _ => rfl | exact mapR_mem fun _ _ => rfl | (intro x; refine And.intro ?_ ?_ <;> (intros; subst_vars; rfl)))
      | fail
    all_goals first
      | (exfalso; omega)
      | (exact absurd hto (by assumption))
      | (intro h'; exact hput (by assumption) h'.1)
      | (intro h'; rw [hpr (by assumption)] at *; exact absurd h'.1 (by assumption))
      | (intro h'; have h2 := h'.2.1; simp_all; done)
      | (rw [hpr (by assumption)] at *; exact bool_tst' ⟨fun h4 => ⟨by assumption, by assumption, h4⟩, fun h4 => h4.2.2⟩)
theorem moveIn_nat {rs : List Int} {es : List EqT} {t : List Int} {m : MoveT} (h : MoveInP rs es t m) : ∃ e a : Nat, m = ⟨e, a, m.back, m.to⟩ := by
  obtain ⟨⟨h1, _⟩, ⟨h2, _⟩, _⟩ := h
  refine ⟨m.eq.toNat, m.at_.toNat, ?_⟩
  cases m
  simp only [MoveT.mk.injEq, and_true]
  dsimp only at h1 h2
  omega
theorem l20Move_fc (tk tk1 tk2 : Tk) (rs : List Int) (es : List EqT) (t : List Int) (m : MoveT) (hE : EqsOkP rs es) (hT : TermOkP rs t) : FC S 95 [] [] [] [.agg [.sl tk (rs.map (.int .i64))], .sl tk1 (es.map EqD), .sl tk2 (t.map (.int .i64)), MoveD m] (.bool (tst (MoveP rs es t m))) [] [] := by
  refine FC.args (args' := [.agg [.sl .any (rs.map (.int .i64))], .sl .any (es.map EqD), .sl .any (t.map (.int .i64)), MoveD m]) ?_ (by simp only [go_sem])
  rcases Classical.em (MoveInP rs es t m) with hm | hn
  · obtain ⟨e, a, h⟩ := moveIn_nat hm
    rw [h] at hm ⊢
    exact l20Move1_fc rs es t m.to e a m.back hE hT hm
  · have htl := hT.2.1
    have hel := hE.1.2
    rw [tst_false (fun h : MoveP rs es t m => hn h.1)]
    refine fc_body Try.func95 rfl (by kernel_rfl) (by simp [Try.f95]) fun B => ?_
    simp only [Try.ntmps95, enumD, List.map_nil, List.map_cons, List.length_map, Nat.zero_add, Nat.reduceAdd]
    repeat' first
      | exact Bool.noConfusion h
      | refine sw_seq ?_
      | refine sw_block ?_
      | refine sw_skip ?_
      | refine sw_inBlock ?_
      | refine sw_go 0 kp95 fun K hK => ?_
      | refine fun (K : List Oper → LS → Prop) (hK : KOk S 0 _ _ _ K) => ?_
      | refine sw_goD kp95 (by kernel_rfl) fun K hK => ?_
      | ((first | refine runL_go ?_ | refine runQ_go ?_); simp (disch := (refine Om.mk ?_; omega)) only [go_sem])
      | (refine hK.nil ?_; clear hK K; simp only [go_sem])
      | (refine runG_fork rfl rfl rfl rfl rfl (fun h => ?_) (fun h => ?_) <;> (try simp (disch := (refine Om.mk ?_; omega)) only [go_sem] at h))
      | (refine runQG_fork rfl rfl rfl rfl rfl (fun h => ?_) (fun h => ?_) <;> (try simp (disch := (refine Om.mk ?_; omega)) only [go_sem] at h))
      | (refine hK.skip rfl (by simp only [dstOk, Nat.reduceLT]) ?_)
      | (refine sw_cond rfl (fun h => ?_) (fun h => ?_) <;> (try simp (disch := (refine Om.mk ?_; omega)) only [go_sem] at h))
      | (refine sw_exit rfl ?_)
      | (refine sw_loopEnd ?_)
      | ((first | refine sw_ret (ret0 ?_) | refine sw_ret ?_); simp (disch := (refine Om.mk ?_; omega)) only [go_sem, Try.results95])
      | refine hK.call rfl rfl rfl (l1In_fc _ _ _) ⟨(by intro p hp; cases hp), rfl, rfl, (by simp only [dstOk, Nat.reduceLT])⟩ ?_
      | refine hK.call rfl rfl rfl (specTermOk_fc _ _ rs m.to) ⟨(by intro p hp; cases hp), rfl, rfl, (by simp only [dstOk, Nat.reduceLT])⟩ ?_
      | (refine hK.fork rfl rfl rfl (fun h => ?_) (fun h => ?_) <;> (try simp (disch := (refine Om.mk ?_; omega)) only [go_sem] at h))
      | (with_reducible refine And.intro (by first | omega | (simp only [List.length_append, List.length_take, List.length_drop, List.length_cons, List.length_nil, List.length_map]; omega)) ?_)
      | ((with_reducible refine And.intro ?_ ?_); · first | (intro x hx; subst hx; rfl) | exact upR_mem fun _ _ => rfl | exact mapR_mem fun _ _ => rfl | (intro x; refine And.intro ?_ ?_ <;> (intros; subst_vars; rfl)))
      | fail
    all_goals exact absurd ⟨⟨by omega, by omega⟩, ⟨by omega, by omega⟩, by assumption, by omega⟩ hn
end Go.Proofs.Ytlcdahaihlflaaa
