/-
  Contracts of the chapter on places: subterms, arguments' places, a term put at a place.
-/
import Derived.Test.YtlcdahaihlflaaaA03t
import Derived.Test.YtlcdahaihlflaaaA02c
namespace Go.Proofs.Ytlcdahaihlflaaa
open Go Go.Lg
set_option linter.unusedSimpArgs false
set_option linter.unusedVariables false
set_option maxHeartbeats 4000000
attribute [local irreducible] SW runL runQ runG runQG FC Ret1
def natD (n : Nat) : D := .int .i64 n
attribute [go_sem] natD
theorem arS_low {rs : List Int} {x : Int} (h : 0 ≤ arS rs x) : -24 ≤ x ∧ x < rs.length := by
  unfold arS at h
  split at h
  · have : 0 ≤ (rs.length : Int) := by omega
    omega
  · split at h
    · omega
    · omega
theorem TermOkP.ar {rs t : List Int} (h : TermOkP rs t) : ∀ x ∈ t, 0 ≤ arS rs x := fun x hx => by
  have := h.2.2
  unfold endS at this
  rw [List.drop_zero] at this
  exact scan_all (rs := rs) t 1 0 (by omega) x hx
theorem TermOkP.low {rs t : List Int} (h : TermOkP rs t) {a : Nat} (ha : a < t.length) : (-24 ≤ t.getD a default ∧ t.getD a default < rs.length) ∧ 0 ≤ arS rs (t.getD a default) ∧ arS rs (t.getD a default) ≤ 3 :=
  ⟨arS_low (h.ar _ (getD_mem t a ha)), h.ar _ (getD_mem t a ha), (arS_rng h.1 _).2⟩
def kp81 : List (Nat × List Nat) := [(0, [1, 2, 3]), (1, [1, 2, 3, 7]), (2, [1, 2, 3, 7, 8]), (3, [1, 3, 7, 8, 9]), (4, [1, 3, 7, 8, 9, 20]), (6, [1, 3, 7, 8, 9]), (7, [1, 3, 7, 8, 9]), (5, [1, 3, 7, 8, 9]), (8, [6])]
attribute [go_sem] kp81
theorem l1Args_fc (tk tk' : Tk) (rs t : List Int) (a : Nat) (hT : TermOkP rs t) (ha : a < t.length) : FC S 81 [] [] [] [.agg [.sl tk (rs.map (.int .i64))], .sl tk' (t.map (.int .i64)), .int .i64 a] (.sl .any ((argsS rs t a).map natD)) [] [] := by
  have hl := hT.2.1.2
  have hlo := hT.low ha
  obtain ⟨n, hn⟩ : ∃ n : Nat, arS rs (t.getD a default) = n := ⟨(arS rs (t.getD a default)).toNat, by omega⟩
  have hlt : ∀ j < n, a < nthB rs t (a + 1) j ∧ nthB rs t (a + 1) j < t.length := fun j hj => nthB_lt hT ha (by omega)
  have hle : ∀ j ≤ n, a < nthB rs t (a + 1) j ∧ nthB rs t (a + 1) j ≤ t.length := fun j hj => nthB_le hT ha (by omega)
  unfold argsS
  rw [hn, Int.toNat_natCast]
  refine FC.args (args' := [.agg [.sl .any (rs.map (.int .i64))], .sl .any (t.map (.int .i64)), .int .i64 a]) ?_ (by simp only [go_sem])
  refine fc_body Try.func81 rfl (by kernel_rfl) (by simp [Try.f81]) fun B => ?_
  simp only [Try.ntmps81, enumD, List.map_nil, List.map_cons, List.length_map, Nat.zero_add, Nat.reduceAdd]
  refine sw_bnd 1 rfl fun hb1 => ?_
  simp only [D.bnd, List.length_map] at hb1
  repeat' first
    | exact Bool.noConfusion h
    | refine sw_seq ?_
    | refine sw_block ?_
    | refine sw_skip ?_
    | refine sw_inBlock ?_
    | refine sw_go 0 kp81 fun K hK => ?_
    | refine fun (K : List Oper → LS → Prop) (hK : KOk S 0 _ _ _ K) => ?_
    | refine sw_goD kp81 (by kernel_rfl) fun K hK => ?_
    | ((first | refine runL_go ?_ | refine runQ_go ?_); simp (disch := (refine Om.mk ?_; omega)) only [go_sem])
    | (refine hK.nil ?_; clear hK K; simp only [go_sem])
    | (refine sw_cond rfl (fun h => ?_) (fun h => ?_) <;> (try simp (disch := (refine Om.mk ?_; omega)) only [go_sem] at h))
    | (refine sw_exit rfl ?_)
    | (refine sw_loopEnd ?_)
    | ((first | refine sw_ret (ret0 ?_) | refine sw_ret ?_); simp (disch := (refine Om.mk ?_; omega)) only [go_sem, Try.results81])
    | refine hK.call rfl rfl rfl (l1Arity_fc _ rs _) ⟨(by intro p hp; cases hp), rfl, rfl, (by simp only [dstOk, Nat.reduceLT])⟩ ?_
    | (with_reducible refine And.intro (by first | omega | (simp only [List.length_append, List.length_take, List.length_drop, List.length_cons, List.length_nil, List.length_map]; omega)) ?_)
    | ((with_reducible refine And.intro ?_ ?_); · first | (intro x hx; subst hx; rfl) | exact upR_mem fun _ _ => rfl | exact mapR_mem fun _ _ => rfl | (intro x; refine And.intro ?_ ?_ <;> (intros; subst_vars; rfl)))
    | fail
  rw [hn]
  refine sw_tok 7 27000 2 1 rfl (.inr rfl) rfl ?_
  simp only [go_sem]
  refine sw_loopT (ι := Nat) (fun j => [(9, .int .i64 (n - j : Int)), (8, .int .i64 (nthB rs t (a + 1) j)), (7, .sl (.own 27000 2 1) ((begS rs t j (a + 1)).map natD))]) (fun _ => []) (fun _ => [27000]) (fun j => j ≤ n) (fun j => n - j) 0 (by (refine covers_mk0 rfl rfl ?_ ?_ ?_ ?_ <;> simp (disch := (refine Om.mk ?_; omega)) only [go_sem] <;> (try omega)); simp [nthB, begS]) (by omega) (fun j hj => ?_)
  simp only [go_sem]
  have hb := begS_length rs t j (a + 1)
  have h3 := hle j hj
  have h4 := hlt j
  have h5 : j < n → ((endS rs t (nthB rs t (a + 1) j)).toNat : Int) = endS rs t (nthB rs t (a + 1) j) := fun hj => by have := endS_ge hT (h4 hj).2; omega
  repeat' first
    | exact Bool.noConfusion h
    | refine sw_seq ?_
    | refine sw_block ?_
    | refine sw_skip ?_
    | refine sw_inBlock ?_
    | refine sw_go 0 kp81 fun K hK => ?_
    | refine fun (K : List Oper → LS → Prop) (hK : KOk S 0 _ _ _ K) => ?_
    | refine sw_goD kp81 (by kernel_rfl) fun K hK => ?_
    | ((first | refine runL_go ?_ | refine runQ_go ?_); simp (disch := (refine Om.mk ?_; omega)) only [go_sem])
    | (refine hK.nil ?_; clear hK K; simp only [go_sem])
    | (refine sw_cond rfl (fun h => ?_) (fun h => ?_) <;> (try simp (disch := (refine Om.mk ?_; omega)) only [go_sem] at h))
    | (refine sw_exit rfl ?_)
    | (refine sw_loopEnd ?_)
    | ((first | refine sw_ret (ret0 ?_) | refine sw_ret ?_); simp (disch := (refine Om.mk ?_; omega)) only [go_sem, Try.results81])
    | refine hK.call rfl rfl rfl (l1End_fc _ _ rs t (nthB rs t (a + 1) j) hT.1 hl (by omega)) ⟨(by intro p hp; cases hp), rfl, rfl, (by simp only [dstOk, Nat.reduceLT])⟩ ?_
    | (with_reducible refine And.intro (by first | omega | (simp only [List.length_append, List.length_take, List.length_drop, List.length_cons, List.length_nil, List.length_map]; omega)) ?_)
    | ((with_reducible refine And.intro ?_ ?_); · first | (intro x hx; subst hx; rfl) | exact upR_mem fun _ _ => rfl | exact mapR_mem fun _ _ => rfl | (intro x; refine And.intro ?_ ?_ <;> (intros; subst_vars; rfl)))
    | fail
  · refine ⟨j + 1, (by (refine covers_mk0 rfl rfl ?_ ?_ ?_ ?_ <;> simp (disch := (refine Om.mk ?_; omega)) only [go_sem] <;> (try omega)); have := h5 (by omega); simp only [nthB, begS_snoc, List.map_append, List.map_cons, List.map_nil, natD]; exact ⟨trivial, this.symm, by omega⟩), by omega, by omega⟩
  · rw [show j = n by omega]
def kp134 : List (Nat × List Nat) := [(0, [1, 2, 3]), (1, [6])]
attribute [go_sem] kp134
def kp133 : List (Nat × List Nat) := [(0, [1, 2, 3]), (1, [1, 2, 3, 7]), (2, [1, 2, 3, 7, 8]), (3, [1, 3, 7, 8, 9]), (4, [1, 3, 7, 8, 9, 19]), (6, [1, 3, 7, 8, 9]), (7, [1, 3, 7, 8, 9]), (5, [1, 3, 7, 8, 9]), (8, [6])]
attribute [go_sem] kp133
end Go.Proofs.Ytlcdahaihlflaaa
