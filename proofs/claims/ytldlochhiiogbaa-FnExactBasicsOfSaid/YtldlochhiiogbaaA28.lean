/-
  Sorted forms modulo associativity and commutativity: the model's side.
-/
import Derived.Test.YtldlochhiiogbaaA28q
import Derived.Test.YtldlochhiiogbaaA23
import Derived.Test.YtldlochhiiogbaaA20
import Derived.Test.YtldlochhiiogbaaA29
import Derived.Test.YtldlochhiiogbaaA03
import Derived.Test.YtldlochhiiogbaaA01b
import Derived.Test.YtldlochhiiogbaaLgK7
namespace Go.Proofs.Ytldlochhiiogbaa
open Go Go.Lg
set_option linter.unusedSimpArgs false
set_option linter.unusedVariables false
set_option maxHeartbeats 4000000
attribute [local irreducible] SW runL runQ runG runQG FC Ret1 toF redoL
theorem lexB_at : ∀ (a b : List Int) (i : Nat), (∀ j < i, a.getD j default = b.getD j default) → i < a.length → i < b.length → a.getD i default ≠ b.getD i default → lexB a b = decide (a.getD i default < b.getD i default)
  | [], _, _, _, h, _, _ => by simp at h
  | _ :: _, [], _, _, _, h, _ => by simp at h
  | x :: r, y :: s, 0, _, _, _, h => by
    simp only [List.getD_cons_zero] at h ⊢
    simp only [lexB]; rw [if_neg h]
  | x :: r, y :: s, i + 1, h, h1, h2, h3 => by
    have h0 := h 0 (by omega)
    simp only [List.getD_cons_zero] at h0
    simp only [List.getD_cons_succ] at h3 ⊢
    simp only [lexB]; rw [if_pos h0]
    exact lexB_at r s i (fun j hj => by have := h (j + 1) (by omega); simpa only [List.getD_cons_succ] using this) (by simpa using h1) (by simpa using h2) h3
theorem lex_eq {a b : List Int} (hl : a.length = b.length) (h : ∀ j < a.length, a.getD j default = b.getD j default) : a = b :=
  List.ext_getElem hl fun j h1 h2 => by
    have := h j h1
    simpa [List.getD, List.getElem?_eq_getElem h1, List.getElem?_eq_getElem h2] using this
def kp47 : List (Nat × List Nat) := [(0, [0, 1]), (1, [0, 1, 10]), (2, [4]), (3, [0, 1, 5]), (4, [0, 1, 5, 19]), (6, [0, 1, 5, 30]), (7, [4]), (5, [0, 1, 5]), (8, [4])]
attribute [go_sem] kp47
theorem lessTerm_fc (tk tk' : Tk) (a b : List Int) : FC S 47 [] [] [] [.sl tk (a.map (.int .i64)), .sl tk' (b.map (.int .i64))] (.bool (lessT a b)) [] [] := by
  refine fc_body Try.func47 rfl (by kernel_rfl) (by simp [Try.f47]) fun B => ?_
  simp only [Try.ntmps47, enumD, List.map_nil, List.map_cons, List.length_map, Nat.zero_add, Nat.reduceAdd]
  refine sw_bnd 0 rfl fun hb0 => ?_
  simp only [D.bnd, List.length_map] at hb0
  refine sw_bnd 1 rfl fun hb1 => ?_
  simp only [D.bnd, List.length_map] at hb1
  repeat' first
    | exact Bool.noConfusion h
    | refine sw_seq ?_
    | refine sw_block ?_
    | refine sw_skip ?_
    | refine sw_inBlock ?_
    | refine sw_go 0 kp47 fun K hK => ?_
    | refine fun (K : List Oper → LS → Prop) (hK : KOk S 0 _ _ _ K) => ?_
    | refine sw_goD kp47 (by kernel_rfl) fun K hK => ?_
    | ((first | refine runL_go ?_ | refine runQ_go ?_); simp (disch := (refine Om.mk ?_; omega)) only [go_sem])
    | (refine hK.nil ?_; clear hK K; simp only [go_sem])
    | (refine sw_cond rfl (fun h => ?_) (fun h => ?_) <;> (try simp (disch := (refine Om.mk ?_; omega)) only [go_sem] at h))
    | (refine sw_exit rfl ?_)
    | (refine sw_loopEnd ?_)
    | ((first | refine sw_ret (ret0 ?_) | refine sw_ret ?_); simp (disch := (refine Om.mk ?_; omega)) only [go_sem, Try.results47])
    | (with_reducible refine And.intro (by first | omega | (simp only [List.length_append, List.length_take, List.length_drop, List.length_cons, List.length_nil, List.length_map]; omega)) ?_)
    | ((with_reducible refine And.intro ?_ ?_); · first | (intro x hx; subst hx; rfl) | exact upR_mem fun _ _ => rfl | exact mapR_mem fun _ _ => rfl | (intro x; refine And.intro ?_ ?_ <;> (intros; subst_vars; rfl)))
    | fail
  · unfold lessT; rw [if_neg (by omega)]; simp
  refine sw_loopU (ι := Nat) (fun i => [(5, .int .i64 i)]) (fun _ => []) (fun i => i ≤ a.length ∧ (∀ j < i, a.getD j default = b.getD j default)) (fun i => a.length - i) 0 (by (refine covers_mk0 rfl rfl ?_ ?_ ?_ ?_ <;> simp (disch := (refine Om.mk ?_; omega)) only [go_sem] <;> (try omega))) ⟨by omega, ?_⟩ (fun i ⟨hi, hj⟩ => ?_)
  rotate_left
  simp only [go_sem]
  repeat' first
    | exact Bool.noConfusion h
    | refine sw_seq ?_
    | refine sw_block ?_
    | refine sw_skip ?_
    | refine sw_inBlock ?_
    | refine sw_go 0 kp47 fun K hK => ?_
    | refine fun (K : List Oper → LS → Prop) (hK : KOk S 0 _ _ _ K) => ?_
    | refine sw_goD kp47 (by kernel_rfl) fun K hK => ?_
    | ((first | refine runL_go ?_ | refine runQ_go ?_); simp (disch := (refine Om.mk ?_; omega)) only [go_sem])
    | (refine hK.nil ?_; clear hK K; simp only [go_sem])
    | (refine sw_cond rfl (fun h => ?_) (fun h => ?_) <;> (try simp (disch := (refine Om.mk ?_; omega)) only [go_sem] at h))
    | (refine sw_exit rfl ?_)
    | (refine sw_loopEnd ?_)
    | ((first | refine sw_ret (ret0 ?_) | refine sw_ret ?_); simp (disch := (refine Om.mk ?_; omega)) only [go_sem, Try.results47])
    | (with_reducible refine And.intro (by first | omega | (simp only [List.length_append, List.length_take, List.length_drop, List.length_cons, List.length_nil, List.length_map]; omega)) ?_)
    | ((with_reducible refine And.intro ?_ ?_); · first | (intro x hx; subst hx; rfl) | exact upR_mem fun _ _ => rfl | exact mapR_mem fun _ _ => rfl | (intro x; refine And.intro ?_ ?_ <;> (intros; subst_vars; rfl)))
    | fail
  · unfold lessT; rw [if_pos (by omega), lexB_at a b i hj (by omega) (by omega) h]
  · exact ⟨i + 1, (by (refine covers_mk0 rfl rfl ?_ ?_ ?_ ?_ <;> simp (disch := (refine Om.mk ?_; omega)) only [go_sem] <;> (try omega))), ⟨by omega, upto_succ hj h⟩, by omega⟩
  · rw [lex_eq (by omega) (fun j h2 => hj j (by omega)), lessT_irr]
  · intro j h2; omega
def kp24 : List (Nat × List Nat) := [(0, [0, 1]), (1, [0, 1, 5]), (2, [0, 1, 5, 19]), (3, [0, 1, 5]), (4, [0, 1, 5, 6]), (5, [0, 5, 6]), (6, [4])]
attribute [go_sem] kp24
theorem l28Insert_fc (tk : Tk) (xs : List (List Int)) (t : List Int) (hn : xs.length ≤ 3000) : FC S 24 [] [] [] [.sl tk (xs.map IntsD), .sl .any (t.map (.int .i64))] (.sl .any ((insT xs t).map IntsD)) [] [] := by
  refine FC.args (args' := [.sl .any (xs.map IntsD), .sl .any (t.map (.int .i64))]) ?_ (by simp only [go_sem])
  refine fc_body Try.func24 rfl (by kernel_rfl) (by simp [Try.f24]) fun B => ?_
  simp only [Try.ntmps24, enumD, List.map_nil, List.map_cons, List.length_map, Nat.zero_add, Nat.reduceAdd]
  refine sw_bnd 0 rfl fun hb0 => ?_
  simp only [D.bnd, List.length_map] at hb0
  repeat' first
    | exact Bool.noConfusion h
    | refine sw_seq ?_
    | refine sw_block ?_
    | refine sw_skip ?_
    | refine sw_inBlock ?_
    | refine sw_go 0 kp24 fun K hK => ?_
    | refine fun (K : List Oper → LS → Prop) (hK : KOk S 0 _ _ _ K) => ?_
    | ((first | refine runL_go ?_ | refine runQ_go ?_); simp (disch := (refine Om.mk ?_; omega)) only [go_sem])
    | (refine hK.nil ?_; clear hK K; simp only [go_sem])
    | (refine runG_fork rfl rfl rfl rfl rfl (fun h => ?_) (fun h => ?_) <;> (try simp (disch := (refine Om.mk ?_; omega)) only [go_sem] at h))
    | (refine hK.skip rfl (by simp only [dstOk, Nat.reduceLT]) ?_)
    | (refine sw_cond rfl (fun h => ?_) (fun h => ?_) <;> (try simp (disch := (refine Om.mk ?_; omega)) only [go_sem] at h))
    | (refine sw_exit rfl ?_)
    | (refine sw_loopEnd ?_)
    | ((first | refine sw_ret (ret0 ?_) | refine sw_ret ?_); simp (disch := (refine Om.mk ?_; omega)) only [go_sem, Try.results24])
    | (refine hK.fork rfl rfl rfl (fun h => ?_) (fun h => ?_) <;> (try simp (disch := (refine Om.mk ?_; omega)) only [go_sem] at h))
    | (with_reducible refine And.intro (by first | omega | (simp only [List.length_append, List.length_take, List.length_drop, List.length_cons, List.length_nil, List.length_map]; omega)) ?_)
    | ((with_reducible refine And.intro ?_ ?_); · first | (intro x hx; subst hx; rfl) | exact upR_mem fun _ _ => rfl | exact mapR_mem fun _ _ => rfl | (intro x; refine And.intro ?_ ?_ <;> (intros; subst_vars; rfl)))
    | fail
  refine sw_loopU (ι := Nat) (fun p => [(5, .int .i64 p)]) (fun p => []) (fun p => p ≤ xs.length ∧ insK xs t xs.length = insK xs t p) (fun p => p) xs.length (by (refine covers_mk0 rfl rfl ?_ ?_ ?_ ?_ <;> simp (disch := (refine Om.mk ?_; omega)) only [go_sem] <;> (try omega)); skip) ?_ (fun p hp => ?_)
  rotate_left
  simp only [go_sem]
  obtain ⟨hp1, hp2⟩ := hp
  have hk : p = 0 ∨ lessT t (xs.getD (p - 1) default) = false → insT xs t = xs.take p ++ t :: xs.drop p := fun h => by
    have e : insK xs t p = p := by
      cases p with
      | zero => rfl
      | succ q =>
        have h1 := h.resolve_left (by omega)
        rw [Nat.add_sub_cancel] at h1
        unfold insK; rw [if_neg (by rw [h1]; simp)]
    unfold insT; rw [hp2, e]
  have hk2 : 0 < p → lessT t (xs.getD (p - 1) default) = true → insK xs t p = insK xs t (p - 1) := fun h0 h => by
    obtain ⟨q, rfl⟩ : ∃ q, p = q + 1 := ⟨p - 1, by omega⟩
    rw [Nat.add_sub_cancel] at h ⊢
    rw [insK, if_pos h]
  repeat' first
    | exact Bool.noConfusion h
    | refine sw_seq ?_
    | refine sw_block ?_
    | refine sw_skip ?_
    | refine sw_inBlock ?_
    | refine sw_go 0 kp24 fun K hK => ?_
    | refine fun (K : List Oper → LS → Prop) (hK : KOk S 0 _ _ _ K) => ?_
    | ((first | refine runL_go ?_ | refine runQ_go ?_); simp (disch := (refine Om.mk ?_; omega)) only [go_sem])
    | (refine hK.nil ?_; clear hK K; simp only [go_sem])
    | (refine runG_fork rfl rfl rfl rfl rfl (fun h => ?_) (fun h => ?_) <;> (try simp (disch := (refine Om.mk ?_; omega)) only [go_sem] at h))
    | (refine hK.skip rfl (by simp only [dstOk, Nat.reduceLT]) ?_)
    | (refine sw_cond rfl (fun h => ?_) (fun h => ?_) <;> (try simp (disch := (refine Om.mk ?_; omega)) only [go_sem] at h))
    | (refine sw_exit rfl ?_)
    | (refine sw_loopEnd ?_)
    | ((first | refine sw_ret (ret0 ?_) | refine sw_ret ?_); simp (disch := (refine Om.mk ?_; omega)) only [go_sem, Try.results24])
    | refine hK.call rfl rfl rfl (lessTerm_fc _ _ _ _) ⟨(by intro p hp; cases hp), rfl, rfl, (by simp only [dstOk, Nat.reduceLT])⟩ ?_
    | (refine hK.fork rfl rfl rfl (fun h => ?_) (fun h => ?_) <;> (try simp (disch := (refine Om.mk ?_; omega)) only [go_sem] at h))
    | (with_reducible refine And.intro (by first | omega | (simp only [List.length_append, List.length_take, List.length_drop, List.length_cons, List.length_nil, List.length_map]; omega)) ?_)
    | ((with_reducible refine And.intro ?_ ?_); · first | (intro x hx; subst hx; rfl) | exact upR_mem fun _ _ => rfl | exact mapR_mem fun _ _ => rfl | (intro x; refine And.intro ?_ ?_ <;> (intros; subst_vars; rfl)))
    | fail
  · exact ⟨p - 1, (by (refine covers_mk0 rfl rfl ?_ ?_ ?_ ?_ <;> simp (disch := (refine Om.mk ?_; omega)) only [go_sem] <;> (try omega))), ⟨by omega, hp2.trans (hk2 (by omega) h)⟩, by omega⟩
  · rw [hk (.inr h)]; first | rfl | (simp; done) | (simp; rfl)
  · rw [hk (.inl (by omega))]; first | rfl | (simp; done) | (simp; rfl)
  · rfl
end Go.Proofs.Ytldlochhiiogbaa
