/-
  HeldIn, both sides.
-/
import Derived.Test.YtgbcnhbmfjkhmaaA27h
import Derived.Test.YtgbcnhbmfjkhmaaA02c
import Derived.Test.YtgbcnhbmfjkhmaaA06e
import Derived.Test.YtgbcnhbmfjkhmaaLTy
namespace Go.Proofs.Ytgbcnhbmfjkhmaa
open Go Go.Lg
set_option linter.unusedSimpArgs false
set_option linter.unusedVariables false
set_option maxHeartbeats 4000000
attribute [local irreducible] SW runL runQ runG runQG FC Ret1 toF
theorem upTo_len' (n : Nat) : (upTo n).length = n := by simp [upTo]
def nvar (r : CRuleT) (k : Nat) : Nat → List Int
  | 0 => withL (withL [] r.r) (r.conds.getD k default).r
  | n + 1 => withL (withL (nvar r k n) (r.conds.getD (k + 1 + n) default).l) (r.conds.getD (k + 1 + n) default).r
def ShortP (t : List Int) : Prop := t.length ≤ 60 ∧ ∀ x ∈ t, -24 ≤ x
structure HeldP (r : CRuleT) (k : Nat) : Prop where
  hk : k < r.conds.length
  hn : r.conds.length ≤ 2
  hl : ShortP r.l
  hr : ShortP r.r
  hc : ∀ j < r.conds.length, ShortP (r.conds.getD j default).l ∧ ShortP (r.conds.getD j default).r
theorem nvar_len {r : CRuleT} {k : Nat} (h : HeldP r k) : ∀ n, k + 1 + n ≤ r.conds.length → (nvar r k n).length ≤ 120 + 120 * n
  | 0, hn => by
    have h1 := withL_len r.r []
    have h2 := withL_len (r.conds.getD k default).r (withL [] r.r)
    have h3 := h.hr.1
    have h4 := (h.hc k h.hk).2.1
    simp only [List.length_nil] at h1
    simp only [nvar]; omega
  | n + 1, hn => by
    have ih := nvar_len h n (by omega)
    have h1 := withL_len (r.conds.getD (k + 1 + n) default).l (nvar r k n)
    have h2 := withL_len (r.conds.getD (k + 1 + n) default).r (withL (nvar r k n) (r.conds.getD (k + 1 + n) default).l)
    have h3 := (h.hc (k + 1 + n) (by omega)).1.1
    have h4 := (h.hc (k + 1 + n) (by omega)).2.1
    simp only [nvar]; omega
def heldF (r : CRuleT) (k : Nat) (i : Nat) : List Int := ((varsAt r k).take i).filter fun m => decide (m ∈ nvar r k (r.conds.length - k - 1))
theorem heldF_succ (r : CRuleT) (k i : Nat) (h : i < (varsAt r k).length) : ((varsAt r k).getD i default ∈ nvar r k (r.conds.length - k - 1) → heldF r k (i + 1) = heldF r k i ++ [(varsAt r k).getD i default]) ∧ ((varsAt r k).getD i default ∉ nvar r k (r.conds.length - k - 1) → heldF r k (i + 1) = heldF r k i) := by
  unfold heldF
  rw [take_snoc _ i h, List.filter_append]
  generalize (varsAt r k).getD i default = v
  constructor <;> intro hp <;> simp [hp]
theorem heldF_len (r : CRuleT) (k i : Nat) : (heldF r k i).length ≤ i := by
  have := List.length_filter_le (fun m => decide (m ∈ nvar r k (r.conds.length - k - 1))) ((varsAt r k).take i)
  rw [List.length_take] at this
  unfold heldF; omega
def heldR0 (r : CRuleT) (k : Nat) : List Int := heldF r k (varsAt r k).length
def kp127 : List (Nat × List Nat) := [(0, [1, 2]), (1, [1, 2, 5]), (2, [1, 2, 5, 6]), (3, [1, 2, 5, 6, 17]), (5, [1, 2, 5, 6]), (4, [1, 2, 5, 6]), (6, [1, 2, 5, 7]), (7, [2, 5, 7, 8]), (8, [2, 5, 7, 8, 45]), (10, [2, 5, 7, 8]), (9, [2, 5, 7, 8]), (11, [5, 7, 9]), (12, [5, 7, 9, 10]), (13, [5, 7, 9, 10, 67]), (15, [5, 7, 9, 10, 75]), (16, [5, 7, 9, 10]), (14, [5, 7, 9, 10]), (17, [4])]
attribute [go_sem] kp127
theorem l27Held_fc (r : CRuleT) (k : Nat) (h0 : HeldP r k) : FC S 127 [] [] [] [CRuleD r, .int .i64 k] (.sl .any ((heldR0 r k).map (.int .i64))) [] [] := by
  have hk := h0.hk
  have hn := h0.hn
  have hvl : ∀ i ≤ r.conds.length, (varsAt r i).length ≤ 60 + 60 * i := fun i hi => varsAt_len r h0.hl.1 i fun j hj => (h0.hc j (by omega)).2.1
  have hnl := fun n hn => nvar_len h0 n hn
  refine fc_body Try.func127 rfl (by kernel_rfl) (by simp [Try.f127]) fun B => ?_
  simp only [Try.ntmps127, enumD, List.map_nil, List.map_cons, List.length_map, Nat.zero_add, Nat.reduceAdd]
  repeat' first
    | exact Bool.noConfusion h
    | refine sw_seq ?_
    | refine sw_block ?_
    | refine sw_skip ?_
    | refine sw_inBlock ?_
    | refine sw_go 0 kp127 fun K hK => ?_
    | refine fun (K : List Oper → LS → Prop) (hK : KOk S 0 _ _ _ K) => ?_
    | refine sw_goD kp127 (by kernel_rfl) fun K hK => ?_
    | ((first | refine runL_go ?_ | refine runQ_go ?_); simp (disch := (refine Om.mk ?_; omega)) only [go_sem, Nat.reduceAdd, Nat.reduceMul, Nat.reduceLT, Nat.reduceLeDiff, Nat.reduceEqDiff, Nat.reduceBEq, Nat.reduceSub, ↓reduceIte, reduceCtorEq])
    | (refine hK.nil ?_; clear hK K; simp only [go_sem, Nat.reduceAdd, Nat.reduceMul, Nat.reduceLT, Nat.reduceLeDiff, Nat.reduceEqDiff, Nat.reduceBEq, Nat.reduceSub, ↓reduceIte, reduceCtorEq])
    | (refine sw_cond rfl (fun h => ?_) (fun h => ?_) <;> (try simp (disch := (refine Om.mk ?_; omega)) only [go_sem, Nat.reduceAdd, Nat.reduceMul, Nat.reduceLT, Nat.reduceLeDiff, Nat.reduceEqDiff, Nat.reduceBEq, Nat.reduceSub, ↓reduceIte, reduceCtorEq] at h))
    | (refine sw_exit rfl ?_)
    | (refine sw_loopEnd ?_)
    | ((first | refine sw_ret (ret0 ?_) | refine sw_ret ?_); simp (disch := (refine Om.mk ?_; omega)) only [go_sem, Nat.reduceAdd, Nat.reduceMul, Nat.reduceLT, Nat.reduceLeDiff, Nat.reduceEqDiff, Nat.reduceBEq, Nat.reduceSub, ↓reduceIte, reduceCtorEq, Try.results127])
    | refine hK.call rfl rfl rfl (l27With_fc .full .any [] r.l (by simp) h0.hl.1 h0.hl.2) ⟨(by intro p hp; cases hp), rfl, rfl, (by simp only [dstOk, Nat.reduceLT])⟩ ?_
    | (with_reducible refine And.intro (by first | omega | (simp only [List.length_append, List.length_take, List.length_drop, List.length_cons, List.length_nil]; omega)) ?_)
    | ((with_reducible refine And.intro ?_ ?_); · first | (intro x hx; subst hx; rfl) | exact upR_mem fun _ _ => rfl | exact mapR_mem fun _ _ => rfl | (intro x; refine And.intro ?_ ?_ <;> (intros; subst_vars; rfl)))
    | fail
  refine sw_loopU (ι := Nat) (fun p => [(6, .int .i64 p), (5, .sl .any ((varsAt r p).map (.int .i64)))]) (fun p => []) (fun p => p ≤ k) (fun p => k - p) 0 (by (refine covers_mk0 rfl rfl ?_ ?_ ?_ ?_ <;> simp (disch := (refine Om.mk ?_; omega)) only [go_sem, Nat.reduceAdd, Nat.reduceMul, Nat.reduceLT, Nat.reduceLeDiff, Nat.reduceEqDiff, Nat.reduceBEq, Nat.reduceSub, ↓reduceIte, reduceCtorEq] <;> (try omega)); exact ⟨rfl, rfl⟩) ?_ (fun p hp => ?_)
  rotate_left
  simp only [go_sem, Nat.reduceAdd, Nat.reduceMul, Nat.reduceLT, Nat.reduceLeDiff, Nat.reduceEqDiff, Nat.reduceBEq, Nat.reduceSub, ↓reduceIte, reduceCtorEq]
  have hv := hvl p (by omega)
  have hc := h0.hc p
  repeat' first
    | exact Bool.noConfusion h
    | refine sw_seq ?_
    | refine sw_block ?_
    | refine sw_skip ?_
    | refine sw_inBlock ?_
    | refine sw_go 0 kp127 fun K hK => ?_
    | refine fun (K : List Oper → LS → Prop) (hK : KOk S 0 _ _ _ K) => ?_
    | refine sw_goD kp127 (by kernel_rfl) fun K hK => ?_
    | ((first | refine runL_go ?_ | refine runQ_go ?_); simp (disch := (refine Om.mk ?_; omega)) only [go_sem, Nat.reduceAdd, Nat.reduceMul, Nat.reduceLT, Nat.reduceLeDiff, Nat.reduceEqDiff, Nat.reduceBEq, Nat.reduceSub, ↓reduceIte, reduceCtorEq])
    | (refine hK.nil ?_; clear hK K; simp only [go_sem, Nat.reduceAdd, Nat.reduceMul, Nat.reduceLT, Nat.reduceLeDiff, Nat.reduceEqDiff, Nat.reduceBEq, Nat.reduceSub, ↓reduceIte, reduceCtorEq])
    | (refine sw_cond rfl (fun h => ?_) (fun h => ?_) <;> (try simp (disch := (refine Om.mk ?_; omega)) only [go_sem, Nat.reduceAdd, Nat.reduceMul, Nat.reduceLT, Nat.reduceLeDiff, Nat.reduceEqDiff, Nat.reduceBEq, Nat.reduceSub, ↓reduceIte, reduceCtorEq] at h))
    | (refine sw_exit rfl ?_)
    | (refine sw_loopEnd ?_)
    | ((first | refine sw_ret (ret0 ?_) | refine sw_ret ?_); simp (disch := (refine Om.mk ?_; omega)) only [go_sem, Nat.reduceAdd, Nat.reduceMul, Nat.reduceLT, Nat.reduceLeDiff, Nat.reduceEqDiff, Nat.reduceBEq, Nat.reduceSub, ↓reduceIte, reduceCtorEq, Try.results127])
    | refine hK.call rfl rfl rfl (l27With_fc .any .any (varsAt r p) (r.conds.getD p default).r (by omega) (hc (by omega)).2.1 (hc (by omega)).2.2) ⟨(by intro p hp; cases hp), rfl, rfl, (by simp only [dstOk, Nat.reduceLT])⟩ ?_
    | refine hK.call rfl rfl rfl (l27With_fc .full .any [] r.r (by simp) h0.hr.1 h0.hr.2) ⟨(by intro p hp; cases hp), rfl, rfl, (by simp only [dstOk, Nat.reduceLT])⟩ ?_
    | refine hK.call rfl rfl rfl (l27With_fc .any .any (withL [] r.r) (r.conds.getD k default).r (by have := withL_len r.r []; have := h0.hr.1; simp only [List.length_nil] at *; omega) (h0.hc k hk).2.1 (h0.hc k hk).2.2) ⟨(by intro p hp; cases hp), rfl, rfl, (by simp only [dstOk, Nat.reduceLT])⟩ ?_
    | (with_reducible refine And.intro (by first | omega | (simp only [List.length_append, List.length_take, List.length_drop, List.length_cons, List.length_nil]; omega)) ?_)
    | ((with_reducible refine And.intro ?_ ?_); · first | (intro x hx; subst hx; rfl) | exact upR_mem fun _ _ => rfl | exact mapR_mem fun _ _ => rfl | (intro x; refine And.intro ?_ ?_ <;> (intros; subst_vars; rfl)))
    | fail
  · exact ⟨p + 1, (by (refine covers_mk0 rfl rfl ?_ ?_ ?_ ?_ <;> simp (disch := (refine Om.mk ?_; omega)) only [go_sem, Nat.reduceAdd, Nat.reduceMul, Nat.reduceLT, Nat.reduceLeDiff, Nat.reduceEqDiff, Nat.reduceBEq, Nat.reduceSub, ↓reduceIte, reduceCtorEq] <;> (try omega)); exact ⟨rfl, by omega⟩), by omega, by omega⟩
  · obtain rfl : k = p := by omega
    refine sw_loopU (ι := Nat) (fun p => [(8, .int .i64 ((k + 1 + p : Nat) : Int)), (7, .sl .any ((nvar r k p).map (.int .i64)))]) (fun p => []) (fun p => k + 1 + p ≤ r.conds.length) (fun p => r.conds.length - p) 0 (by (refine covers_mk0 rfl rfl ?_ ?_ ?_ ?_ <;> simp (disch := (refine Om.mk ?_; omega)) only [go_sem, Nat.reduceAdd, Nat.reduceMul, Nat.reduceLT, Nat.reduceLeDiff, Nat.reduceEqDiff, Nat.reduceBEq, Nat.reduceSub, ↓reduceIte, reduceCtorEq] <;> (try omega)); exact ⟨rfl, by omega⟩) ?_ (fun p hp => ?_)
    rotate_left
    simp only [go_sem, Nat.reduceAdd, Nat.reduceMul, Nat.reduceLT, Nat.reduceLeDiff, Nat.reduceEqDiff, Nat.reduceBEq, Nat.reduceSub, ↓reduceIte, reduceCtorEq]
    have hv2 := hnl p (by omega)
    have hc2 := h0.hc (k + 1 + p)
    repeat' first
      | exact Bool.noConfusion h
      | refine sw_seq ?_
      | refine sw_block ?_
      | refine sw_skip ?_
      | refine sw_inBlock ?_
      | refine sw_go 0 kp127 fun K hK => ?_
      | refine fun (K : List Oper → LS → Prop) (hK : KOk S 0 _ _ _ K) => ?_
      | refine sw_goD kp127 (by kernel_rfl) fun K hK => ?_
      | ((first | refine runL_go ?_ | refine runQ_go ?_); simp (disch := (refine Om.mk ?_; omega)) only [go_sem, Nat.reduceAdd, Nat.reduceMul, Nat.reduceLT, Nat.reduceLeDiff, Nat.reduceEqDiff, Nat.reduceBEq, Nat.reduceSub, ↓reduceIte, reduceCtorEq])
      | (refine hK.nil ?_; clear hK K; simp only [go_sem, Nat.reduceAdd, Nat.reduceMul, Nat.reduceLT, Nat.reduceLeDiff, Nat.reduceEqDiff, Nat.reduceBEq, Nat.reduceSub, ↓reduceIte, reduceCtorEq])
      | (refine sw_cond rfl (fun h => ?_) (fun h => ?_) <;> (try simp (disch := (refine Om.mk ?_; omega)) only [go_sem, Nat.reduceAdd, Nat.reduceMul, Nat.reduceLT, Nat.reduceLeDiff, Nat.reduceEqDiff, Nat.reduceBEq, Nat.reduceSub, ↓reduceIte, reduceCtorEq] at h))
      | (refine sw_exit rfl ?_)
      | (refine sw_loopEnd ?_)
      | ((first | refine sw_ret (ret0 ?_) | refine sw_ret ?_); simp (disch := (refine Om.mk ?_; omega)) only [go_sem, Nat.reduceAdd, Nat.reduceMul, Nat.reduceLT, Nat.reduceLeDiff, Nat.reduceEqDiff, Nat.reduceBEq, Nat.reduceSub, ↓reduceIte, reduceCtorEq, Try.results127])
      | refine hK.call rfl rfl rfl (l27With_fc .any .any (nvar r k p) (r.conds.getD (k + 1 + p) default).l (by omega) (hc2 (by omega)).1.1 (hc2 (by omega)).1.2) ⟨(by intro p hp; cases hp), rfl, rfl, (by simp only [dstOk, Nat.reduceLT])⟩ ?_
      | refine hK.call rfl rfl rfl (l27With_fc .any .any (withL (nvar r k p) (r.conds.getD (k + 1 + p) default).l) (r.conds.getD (k + 1 + p) default).r (by have := withL_len (r.conds.getD (k + 1 + p) default).l (nvar r k p); have := (hc2 (by omega)).1.1; omega) (hc2 (by omega)).2.1 (hc2 (by omega)).2.2) ⟨(by intro p hp; cases hp), rfl, rfl, (by simp only [dstOk, Nat.reduceLT])⟩ ?_
      | (with_reducible refine And.intro (by first | omega | (simp only [List.length_append, List.length_take, List.length_drop, List.length_cons, List.length_nil]; omega)) ?_)
      | ((with_reducible refine And.intro ?_ ?_); · first | (intro x hx; subst hx; rfl) | exact upR_mem fun _ _ => rfl | exact mapR_mem fun _ _ => rfl | (intro x; refine And.intro ?_ ?_ <;> (intros; subst_vars; rfl)))
      | fail
    · exact ⟨p + 1, (by (refine covers_mk0 rfl rfl ?_ ?_ ?_ ?_ <;> simp (disch := (refine Om.mk ?_; omega)) only [go_sem, Nat.reduceAdd, Nat.reduceMul, Nat.reduceLT, Nat.reduceLeDiff, Nat.reduceEqDiff, Nat.reduceBEq, Nat.reduceSub, ↓reduceIte, reduceCtorEq] <;> (try omega)); exact ⟨rfl, by omega⟩), by omega, by omega⟩
    · obtain rfl : p = r.conds.length - k - 1 := by omega
      have hw := hvl k (by omega)
      refine sw_tok 9 83000 2 1 rfl (.inr rfl) rfl ?_
      simp only [go_sem, Nat.reduceAdd, Nat.reduceMul, Nat.reduceLT, Nat.reduceLeDiff, Nat.reduceEqDiff, Nat.reduceBEq, Nat.reduceSub, ↓reduceIte, reduceCtorEq]
      refine sw_loopT (ι := Nat) (fun p => [(10, .int .i64 p), (9, .sl (.own 83000 2 1) ((heldF r k p).map (.int .i64)))]) (fun _ => []) (fun _ => [83000]) (fun p => p ≤ (varsAt r k).length) (fun p => (varsAt r k).length - p) 0 (by (refine covers_mk0 rfl rfl ?_ ?_ ?_ ?_ <;> simp (disch := (refine Om.mk ?_; omega)) only [go_sem, Nat.reduceAdd, Nat.reduceMul, Nat.reduceLT, Nat.reduceLeDiff, Nat.reduceEqDiff, Nat.reduceBEq, Nat.reduceSub, ↓reduceIte, reduceCtorEq] <;> (try omega)); exact ⟨rfl, rfl⟩) (by omega) (fun p hp => ?_)
      simp only [go_sem, Nat.reduceAdd, Nat.reduceMul, Nat.reduceLT, Nat.reduceLeDiff, Nat.reduceEqDiff, Nat.reduceBEq, Nat.reduceSub, ↓reduceIte, reduceCtorEq]
      have hcl := heldF_len r k p
      have hcs := heldF_succ r k p
      repeat' first
        | exact Bool.noConfusion h
        | refine sw_seq ?_
        | refine sw_block ?_
        | refine sw_skip ?_
        | refine sw_inBlock ?_
        | refine sw_go 0 kp127 fun K hK => ?_
        | refine fun (K : List Oper → LS → Prop) (hK : KOk S 0 _ _ _ K) => ?_
        | refine sw_goD kp127 (by kernel_rfl) fun K hK => ?_
        | ((first | refine runL_go ?_ | refine runQ_go ?_); simp (disch := (refine Om.mk ?_; omega)) only [go_sem, Nat.reduceAdd, Nat.reduceMul, Nat.reduceLT, Nat.reduceLeDiff, Nat.reduceEqDiff, Nat.reduceBEq, Nat.reduceSub, ↓reduceIte, reduceCtorEq])
        | (refine hK.nil ?_; clear hK K; simp only [go_sem, Nat.reduceAdd, Nat.reduceMul, Nat.reduceLT, Nat.reduceLeDiff, Nat.reduceEqDiff, Nat.reduceBEq, Nat.reduceSub, ↓reduceIte, reduceCtorEq])
        | (refine sw_cond rfl (fun h => ?_) (fun h => ?_) <;> (try simp (disch := (refine Om.mk ?_; omega)) only [go_sem, Nat.reduceAdd, Nat.reduceMul, Nat.reduceLT, Nat.reduceLeDiff, Nat.reduceEqDiff, Nat.reduceBEq, Nat.reduceSub, ↓reduceIte, reduceCtorEq] at h))
        | (refine sw_exit rfl ?_)
        | (refine sw_loopEnd ?_)
        | ((first | refine sw_ret (ret0 ?_) | refine sw_ret ?_); simp (disch := (refine Om.mk ?_; omega)) only [go_sem, Nat.reduceAdd, Nat.reduceMul, Nat.reduceLT, Nat.reduceLeDiff, Nat.reduceEqDiff, Nat.reduceBEq, Nat.reduceSub, ↓reduceIte, reduceCtorEq, Try.results127])
        | refine hK.call rfl rfl rfl (l1Has_fc _ _ _) ⟨(by intro p hp; cases hp), rfl, rfl, (by simp only [dstOk, Nat.reduceLT])⟩ ?_
        | (with_reducible refine And.intro (by first | omega | (simp only [List.length_append, List.length_take, List.length_drop, List.length_cons, List.length_nil]; omega)) ?_)
        | ((with_reducible refine And.intro ?_ ?_); · first | (intro x hx; subst hx; rfl) | exact upR_mem fun _ _ => rfl | exact mapR_mem fun _ _ => rfl | (intro x; refine And.intro ?_ ?_ <;> (intros; subst_vars; rfl)))
        | fail
      · exact ⟨p + 1, (by (refine covers_mk0 rfl rfl ?_ ?_ ?_ ?_ <;> simp (disch := (refine Om.mk ?_; omega)) only [go_sem, Nat.reduceAdd, Nat.reduceMul, Nat.reduceLT, Nat.reduceLeDiff, Nat.reduceEqDiff, Nat.reduceBEq, Nat.reduceSub, ↓reduceIte, reduceCtorEq] <;> (try omega)); rw [(hcs (by omega)).1 h]; exact ⟨rfl, by omega⟩), by omega, by omega⟩
      · exact ⟨p + 1, (by (refine covers_mk0 rfl rfl ?_ ?_ ?_ ?_ <;> simp (disch := (refine Om.mk ?_; omega)) only [go_sem, Nat.reduceAdd, Nat.reduceMul, Nat.reduceLT, Nat.reduceLeDiff, Nat.reduceEqDiff, Nat.reduceBEq, Nat.reduceSub, ↓reduceIte, reduceCtorEq] <;> (try omega)); rw [(hcs (by omega)).2 h]; exact ⟨rfl, by omega⟩), by omega, by omega⟩
      · rw [show p = (varsAt r k).length by omega]; rfl
    · omega
  · omega
/-! The program's side. -/
theorem cloneH_fc (tk : Tk) (xs : List Int) (hl : xs.length ≤ 17592186044416) : FC S 94 [] [] [] [.sl tk (xs.map (.int .i64))] (.sl (.own 0 2 1) (xs.map (.int .i64))) [] [0] := by
  refine FC.args (args' := [.sl .any (xs.map (.int .i64))]) ?_ (by simp only [go_sem, Nat.reduceAdd, Nat.reduceMul, Nat.reduceLT, Nat.reduceLeDiff, Nat.reduceEqDiff, Nat.reduceBEq, Nat.reduceSub, ↓reduceIte, reduceCtorEq])
  refine fc_body1 Try.func94 rfl (by kernel_rfl) (by simp [Try.f94]) fun B => ?_
  simp only [Try.ntmps94, enumD, List.map_nil, List.map_cons, List.length_map, Nat.zero_add, Nat.reduceAdd]
  refine sw_bnd 0 rfl fun hb0 => ?_
  simp only [D.bnd, List.length_map] at hb0
  refine sw_nilcase 0 rfl (fun hx => ?_) ?_ <;> simp only [go_sem, Nat.reduceAdd, Nat.reduceMul, Nat.reduceLT, Nat.reduceLeDiff, Nat.reduceEqDiff, Nat.reduceBEq, Nat.reduceSub, ↓reduceIte, reduceCtorEq]
  · have hx : xs = [] := by simpa using hx
    subst hx
    repeat' first
      | (refine sw_tok 2 5000 2 1 rfl (.inl rfl) rfl ?_; simp only [go_sem, Nat.reduceAdd, Nat.reduceMul, Nat.reduceLT, Nat.reduceLeDiff, Nat.reduceEqDiff, Nat.reduceBEq, Nat.reduceSub, ↓reduceIte, reduceCtorEq])
      | exact Bool.noConfusion h
      | refine sw_seq ?_
      | refine sw_block ?_
      | refine sw_skip ?_
      | refine sw_inBlock ?_
      | refine sw_go 0 kp94 fun K hK => ?_
      | refine fun (K : List Oper → LS → Prop) (hK : KOk S 0 _ _ _ K) => ?_
      | ((first | refine runL_go ?_ | refine runQ_go ?_); simp (disch := (refine Om.mk ?_; omega)) only [go_sem, Nat.reduceAdd, Nat.reduceMul, Nat.reduceLT, Nat.reduceLeDiff, Nat.reduceEqDiff, Nat.reduceBEq, Nat.reduceSub, ↓reduceIte, reduceCtorEq])
      | (refine hK.nil ?_; clear hK K; simp only [go_sem, Nat.reduceAdd, Nat.reduceMul, Nat.reduceLT, Nat.reduceLeDiff, Nat.reduceEqDiff, Nat.reduceBEq, Nat.reduceSub, ↓reduceIte, reduceCtorEq])
      | (refine sw_cond rfl (fun h => ?_) (fun h => ?_) <;> (try simp (disch := (refine Om.mk ?_; omega)) only [go_sem, Nat.reduceAdd, Nat.reduceMul, Nat.reduceLT, Nat.reduceLeDiff, Nat.reduceEqDiff, Nat.reduceBEq, Nat.reduceSub, ↓reduceIte, reduceCtorEq] at h))
      | (refine sw_exit rfl ?_)
      | (refine sw_loopEnd ?_)
      | ((first | refine sw_ret (ret0 ?_) | refine sw_ret ?_); simp (disch := (refine Om.mk ?_; omega)) only [go_sem, Nat.reduceAdd, Nat.reduceMul, Nat.reduceLT, Nat.reduceLeDiff, Nat.reduceEqDiff, Nat.reduceBEq, Nat.reduceSub, ↓reduceIte, reduceCtorEq, Try.results94])
      | (with_reducible refine And.intro (by first | omega | (simp only [List.length_append, List.length_take, List.length_drop, List.length_cons, List.length_nil]; omega)) ?_)
      | ((with_reducible refine And.intro ?_ ?_); · first | (intro x hx; subst hx; rfl) | exact upR_mem fun _ _ => rfl | exact mapR_mem fun _ _ => rfl | (intro x; refine And.intro ?_ ?_ <;> (intros; subst_vars; rfl)))
      | fail
    exact ret1_own rfl (by simp)
  · repeat' first
      | exact Bool.noConfusion h
      | refine sw_seq ?_
      | refine sw_block ?_
      | refine sw_skip ?_
      | refine sw_inBlock ?_
      | refine sw_go 0 kp94 fun K hK => ?_
      | refine fun (K : List Oper → LS → Prop) (hK : KOk S 0 _ _ _ K) => ?_
      | ((first | refine runL_go ?_ | refine runQ_go ?_); simp (disch := (refine Om.mk ?_; omega)) only [go_sem, Nat.reduceAdd, Nat.reduceMul, Nat.reduceLT, Nat.reduceLeDiff, Nat.reduceEqDiff, Nat.reduceBEq, Nat.reduceSub, ↓reduceIte, reduceCtorEq])
      | (refine hK.nil ?_; clear hK K; simp only [go_sem, Nat.reduceAdd, Nat.reduceMul, Nat.reduceLT, Nat.reduceLeDiff, Nat.reduceEqDiff, Nat.reduceBEq, Nat.reduceSub, ↓reduceIte, reduceCtorEq])
      | (refine sw_cond rfl (fun h => ?_) (fun h => ?_) <;> (try simp (disch := (refine Om.mk ?_; omega)) only [go_sem, Nat.reduceAdd, Nat.reduceMul, Nat.reduceLT, Nat.reduceLeDiff, Nat.reduceEqDiff, Nat.reduceBEq, Nat.reduceSub, ↓reduceIte, reduceCtorEq] at h))
      | (refine sw_exit rfl ?_)
      | (refine sw_loopEnd ?_)
      | ((first | refine sw_ret (ret0 ?_) | refine sw_ret ?_); simp (disch := (refine Om.mk ?_; omega)) only [go_sem, Nat.reduceAdd, Nat.reduceMul, Nat.reduceLT, Nat.reduceLeDiff, Nat.reduceEqDiff, Nat.reduceBEq, Nat.reduceSub, ↓reduceIte, reduceCtorEq, Try.results94])
      | (with_reducible refine And.intro (by first | omega | (simp only [List.length_append, List.length_take, List.length_drop, List.length_cons, List.length_nil]; omega)) ?_)
      | ((with_reducible refine And.intro ?_ ?_); · first | (intro x hx; subst hx; rfl) | exact upR_mem fun _ _ => rfl | exact mapR_mem fun _ _ => rfl | (intro x; refine And.intro ?_ ?_ <;> (intros; subst_vars; rfl)))
      | fail
    exact ret1_own rfl (by simp)
def varsI (t : List Int) (n : Nat) : List Int := (upTo n).filter fun m => decide (-1 - m ∈ t)
theorem varsI_succ (t : List Int) (n : Nat) : (-1 - (n : Int) ∈ t → varsI t (n + 1) = varsI t n ++ [(n : Int)]) ∧ (-1 - (n : Int) ∉ t → varsI t (n + 1) = varsI t n) := by
  unfold varsI
  rw [upTo_succ, List.filter_append]
  constructor <;> intro h <;> simp [h]
theorem varsI_len (t : List Int) (n : Nat) : (varsI t n).length ≤ n := by
  have := List.length_filter_le (fun m => decide (-1 - m ∈ t)) (upTo n)
  rwa [upTo_len'] at this
def kp229 : List (Nat × List Nat) := [(0, [0]), (1, [0, 3]), (2, [0, 3, 4]), (3, [0, 3, 4, 6]), (5, [0, 3, 4, 12]), (6, [0, 3, 4]), (4, [0, 3, 4]), (7, [2])]
attribute [go_sem] kp229
theorem varsIn_fc (tk : Tk) (t : List Int) : FC S 229 [] [] [] [.sl tk (t.map (.int .i64))] (.sl .any ((varsI t 24).map (.int .i64))) [] [] := by
  refine FC.args (args' := [.sl .any (t.map (.int .i64))]) ?_ (by simp only [go_sem, Nat.reduceAdd, Nat.reduceMul, Nat.reduceLT, Nat.reduceLeDiff, Nat.reduceEqDiff, Nat.reduceBEq, Nat.reduceSub, ↓reduceIte, reduceCtorEq])
  refine fc_body Try.func229 rfl (by kernel_rfl) (by simp [Try.f229]) fun B => ?_
  simp only [Try.ntmps229, enumD, List.map_nil, List.map_cons, List.length_map, Nat.zero_add, Nat.reduceAdd]
  repeat' first
    | (refine sw_tok 3 17000 2 1 rfl (.inl rfl) rfl ?_; simp only [go_sem, Nat.reduceAdd, Nat.reduceMul, Nat.reduceLT, Nat.reduceLeDiff, Nat.reduceEqDiff, Nat.reduceBEq, Nat.reduceSub, ↓reduceIte, reduceCtorEq])
    | exact Bool.noConfusion h
    | refine sw_seq ?_
    | refine sw_block ?_
    | refine sw_skip ?_
    | refine sw_inBlock ?_
    | refine sw_go 0 kp229 fun K hK => ?_
    | refine fun (K : List Oper → LS → Prop) (hK : KOk S 0 _ _ _ K) => ?_
    | ((first | refine runL_go ?_ | refine runQ_go ?_); simp (disch := (refine Om.mk ?_; omega)) only [go_sem, Nat.reduceAdd, Nat.reduceMul, Nat.reduceLT, Nat.reduceLeDiff, Nat.reduceEqDiff, Nat.reduceBEq, Nat.reduceSub, ↓reduceIte, reduceCtorEq])
    | (refine hK.nil ?_; clear hK K; simp only [go_sem, Nat.reduceAdd, Nat.reduceMul, Nat.reduceLT, Nat.reduceLeDiff, Nat.reduceEqDiff, Nat.reduceBEq, Nat.reduceSub, ↓reduceIte, reduceCtorEq])
    | (refine sw_cond rfl (fun h => ?_) (fun h => ?_) <;> (try simp (disch := (refine Om.mk ?_; omega)) only [go_sem, Nat.reduceAdd, Nat.reduceMul, Nat.reduceLT, Nat.reduceLeDiff, Nat.reduceEqDiff, Nat.reduceBEq, Nat.reduceSub, ↓reduceIte, reduceCtorEq] at h))
    | (refine sw_exit rfl ?_)
    | (refine sw_loopEnd ?_)
    | ((first | refine sw_ret (ret0 ?_) | refine sw_ret ?_); simp (disch := (refine Om.mk ?_; omega)) only [go_sem, Nat.reduceAdd, Nat.reduceMul, Nat.reduceLT, Nat.reduceLeDiff, Nat.reduceEqDiff, Nat.reduceBEq, Nat.reduceSub, ↓reduceIte, reduceCtorEq, Try.results229])
    | (with_reducible refine And.intro (by first | omega | (simp only [List.length_append, List.length_take, List.length_drop, List.length_cons, List.length_nil]; omega)) ?_)
    | ((with_reducible refine And.intro ?_ ?_); · first | (intro x hx; subst hx; rfl) | exact upR_mem fun _ _ => rfl | exact mapR_mem fun _ _ => rfl | (intro x; refine And.intro ?_ ?_ <;> (intros; subst_vars; rfl)))
    | fail
  refine sw_loopT (ι := Nat) (fun p => [(4, .int .i64 p), (3, .sl (.own 17000 2 1) ((varsI t p).map (.int .i64)))]) (fun _ => []) (fun _ => [17000]) (fun p => p ≤ 24) (fun p => 24 - p) 0 (by (refine covers_mk0 rfl rfl ?_ ?_ ?_ ?_ <;> simp (disch := (refine Om.mk ?_; omega)) only [go_sem, Nat.reduceAdd, Nat.reduceMul, Nat.reduceLT, Nat.reduceLeDiff, Nat.reduceEqDiff, Nat.reduceBEq, Nat.reduceSub, ↓reduceIte, reduceCtorEq] <;> (try omega)); exact ⟨rfl, rfl⟩) (by omega) (fun p hp => ?_)
  simp only [go_sem, Nat.reduceAdd, Nat.reduceMul, Nat.reduceLT, Nat.reduceLeDiff, Nat.reduceEqDiff, Nat.reduceBEq, Nat.reduceSub, ↓reduceIte, reduceCtorEq]
  have hcl := varsI_len t p
  have hcs := varsI_succ t p
  repeat' first
    | exact Bool.noConfusion h
    | refine sw_seq ?_
    | refine sw_block ?_
    | refine sw_skip ?_
    | refine sw_inBlock ?_
    | refine sw_go 0 kp229 fun K hK => ?_
    | refine fun (K : List Oper → LS → Prop) (hK : KOk S 0 _ _ _ K) => ?_
    | ((first | refine runL_go ?_ | refine runQ_go ?_); simp (disch := (refine Om.mk ?_; omega)) only [go_sem, Nat.reduceAdd, Nat.reduceMul, Nat.reduceLT, Nat.reduceLeDiff, Nat.reduceEqDiff, Nat.reduceBEq, Nat.reduceSub, ↓reduceIte, reduceCtorEq])
    | (refine hK.nil ?_; clear hK K; simp only [go_sem, Nat.reduceAdd, Nat.reduceMul, Nat.reduceLT, Nat.reduceLeDiff, Nat.reduceEqDiff, Nat.reduceBEq, Nat.reduceSub, ↓reduceIte, reduceCtorEq])
    | (refine sw_cond rfl (fun h => ?_) (fun h => ?_) <;> (try simp (disch := (refine Om.mk ?_; omega)) only [go_sem, Nat.reduceAdd, Nat.reduceMul, Nat.reduceLT, Nat.reduceLeDiff, Nat.reduceEqDiff, Nat.reduceBEq, Nat.reduceSub, ↓reduceIte, reduceCtorEq] at h))
    | (refine sw_exit rfl ?_)
    | (refine sw_loopEnd ?_)
    | ((first | refine sw_ret (ret0 ?_) | refine sw_ret ?_); simp (disch := (refine Om.mk ?_; omega)) only [go_sem, Nat.reduceAdd, Nat.reduceMul, Nat.reduceLT, Nat.reduceLeDiff, Nat.reduceEqDiff, Nat.reduceBEq, Nat.reduceSub, ↓reduceIte, reduceCtorEq, Try.results229])
    | refine hK.call rfl rfl rfl (contains_fc _ _ _) ⟨(by intro p hp; cases hp), rfl, rfl, (by simp only [dstOk, Nat.reduceLT])⟩ ?_
    | (with_reducible refine And.intro (by first | omega | (simp only [List.length_append, List.length_take, List.length_drop, List.length_cons, List.length_nil]; omega)) ?_)
    | ((with_reducible refine And.intro ?_ ?_); · first | (intro x hx; subst hx; rfl) | exact upR_mem fun _ _ => rfl | exact mapR_mem fun _ _ => rfl | (intro x; refine And.intro ?_ ?_ <;> (intros; subst_vars; rfl)))
    | fail
  · exact ⟨p + 1, (by (refine covers_mk0 rfl rfl ?_ ?_ ?_ ?_ <;> simp (disch := (refine Om.mk ?_; omega)) only [go_sem, Nat.reduceAdd, Nat.reduceMul, Nat.reduceLT, Nat.reduceLeDiff, Nat.reduceEqDiff, Nat.reduceBEq, Nat.reduceSub, ↓reduceIte, reduceCtorEq] <;> (try omega)); rw [hcs.1 h]; exact ⟨rfl, by omega⟩), by omega, by omega⟩
  · exact ⟨p + 1, (by (refine covers_mk0 rfl rfl ?_ ?_ ?_ ?_ <;> simp (disch := (refine Om.mk ?_; omega)) only [go_sem, Nat.reduceAdd, Nat.reduceMul, Nat.reduceLT, Nat.reduceLeDiff, Nat.reduceEqDiff, Nat.reduceBEq, Nat.reduceSub, ↓reduceIte, reduceCtorEq] <;> (try omega)); rw [hcs.2 h]; exact ⟨rfl, by omega⟩), by omega, by omega⟩
  · rw [show p = 24 by omega]
def heldA (r : CRuleT) : Nat → List Int
  | 0 => r.l
  | j + 1 => heldA r j ++ (r.conds.getD j default).r
def heldB (r : CRuleT) (k : Nat) : Nat → List Int
  | 0 => (r.conds.getD k default).r ++ r.r
  | i + 1 => if k < i then heldB r k i ++ (r.conds.getD i default).l ++ (r.conds.getD i default).r else heldB r k i
theorem heldA_len {r : CRuleT} {k : Nat} (h : HeldP r k) : ∀ j ≤ r.conds.length, (heldA r j).length ≤ 60 + 60 * j
  | 0, _ => by have := h.hl.1; simp only [heldA]; omega
  | j + 1, hj => by
    have ih := heldA_len h j (by omega)
    have := (h.hc j (by omega)).2.1
    simp only [heldA, List.length_append]; omega
theorem heldB_len {r : CRuleT} {k : Nat} (h : HeldP r k) : ∀ j ≤ r.conds.length, (heldB r k j).length ≤ 120 + 120 * j
  | 0, _ => by have := h.hr.1; have := (h.hc k h.hk).2.1; simp only [heldB, List.length_append]; omega
  | j + 1, hj => by
    have ih := heldB_len h j (by omega)
    have := (h.hc j (by omega)).2.1
    have := (h.hc j (by omega)).1.1
    simp only [heldB]
    split
    · simp only [List.length_append]; omega
    · omega
def heldV (r : CRuleT) (k : Nat) : List Int := varsI (heldA r k) 24
def heldG (r : CRuleT) (k : Nat) (i : Nat) : List Int := ((heldV r k).take i).filter fun m => decide (-1 - m ∈ heldB r k r.conds.length)
theorem heldG_succ (r : CRuleT) (k i : Nat) (h : i < (heldV r k).length) : (-1 - (heldV r k).getD i default ∈ heldB r k r.conds.length → heldG r k (i + 1) = heldG r k i ++ [(heldV r k).getD i default]) ∧ (-1 - (heldV r k).getD i default ∉ heldB r k r.conds.length → heldG r k (i + 1) = heldG r k i) := by
  unfold heldG
  rw [take_snoc _ i h, List.filter_append]
  generalize (heldV r k).getD i default = v
  constructor <;> intro hp <;> simp [hp]
theorem heldG_len (r : CRuleT) (k i : Nat) : (heldG r k i).length ≤ i := by
  have := List.length_filter_le (fun m => decide (-1 - m ∈ heldB r k r.conds.length)) ((heldV r k).take i)
  rw [List.length_take] at this
  unfold heldG; omega
def kp215 : List (Nat × List Nat) := [(0, [1, 2]), (1, [1, 2, 5, 6]), (2, [1, 5, 6, 26, 27, 28]), (3, [1, 5, 6, 26, 27, 28, 29]), (4, [1, 5, 6, 7, 8, 26, 27, 28]), (5, [1, 5, 6, 7, 8, 26, 27, 28, 35]), (6, [1, 5, 6, 7, 8, 26, 27, 28]), (7, [1, 5, 6, 8, 26, 27, 28, 42]), (8, [1, 5, 6, 26, 27, 28]), (9, [1, 5, 6, 26, 27, 28]), (10, [5, 6, 9]), (11, [6, 9, 52, 53, 54]), (12, [6, 9, 52, 53, 54, 55]), (13, [6, 9, 11, 52, 53, 54]), (14, [6, 9, 11, 52, 53, 54, 61]), (15, [6, 9, 52, 53, 54]), (16, [6, 9, 52, 53, 54]), (17, [4])]
attribute [go_sem] kp215
theorem held_fc' (pl : List Nat) (hpl : pl ≠ []) (r : CRuleT) (k : Nat) (h0 : HeldP r k) : FC S 215 [] [] [] [CRuleD r, .int .i64 k] (Int64SL pl (heldG r k (heldV r k).length)) [] [] := by
  have hk := h0.hk
  have hn := h0.hn
  have hl := h0.hl.1
  have hr := h0.hr.1
  have hck := (h0.hc k hk).2.1
  have hvl : (heldV r k).length ≤ 24 := varsI_len _ 24
  refine fc_body Try.func215 rfl (by kernel_rfl) (by simp [Try.f215]) fun B => ?_
  simp only [Try.ntmps215, enumD, List.map_nil, List.map_cons, List.length_map, Nat.zero_add, Nat.reduceAdd]
  repeat' first
    | exact Bool.noConfusion h
    | refine sw_seq ?_
    | refine sw_block ?_
    | refine sw_skip ?_
    | refine sw_inBlock ?_
    | refine sw_go 0 kp215 fun K hK => ?_
    | refine sw_goX 0 kp215 13 (id := 1) (by kernel_rfl) fun K hK => ?_
    | (refine hK.alloc rfl rfl ⟨(by simp only [Nat.reduceLT]), rfl⟩ ?_; simp (disch := (refine Om.mk ?_; omega)) only [go_sem, Nat.reduceAdd, Nat.reduceMul, Nat.reduceLT, Nat.reduceLeDiff, Nat.reduceEqDiff, Nat.reduceBEq, Nat.reduceSub, ↓reduceIte, reduceCtorEq])
    | (refine hK.store rfl rfl rfl ⟨⟨(by simp only [go_sem, Nat.reduceAdd, Nat.reduceMul, Nat.reduceLT, Nat.reduceLeDiff, Nat.reduceEqDiff, Nat.reduceBEq, Nat.reduceSub, ↓reduceIte, reduceCtorEq]), (by simp only [go_sem, Nat.reduceAdd, Nat.reduceMul, Nat.reduceLT, Nat.reduceLeDiff, Nat.reduceEqDiff, Nat.reduceBEq, Nat.reduceSub, ↓reduceIte, reduceCtorEq])⟩, (by simp only [go_sem, Nat.reduceAdd, Nat.reduceMul, Nat.reduceLT, Nat.reduceLeDiff, Nat.reduceEqDiff, Nat.reduceBEq, Nat.reduceSub, ↓reduceIte, reduceCtorEq]), (by simp only [go_sem, Nat.reduceAdd, Nat.reduceMul, Nat.reduceLT, Nat.reduceLeDiff, Nat.reduceEqDiff, Nat.reduceBEq, Nat.reduceSub, ↓reduceIte, reduceCtorEq]), (by simp only [go_sem, Nat.reduceAdd, Nat.reduceMul, Nat.reduceLT, Nat.reduceLeDiff, Nat.reduceEqDiff, Nat.reduceBEq, Nat.reduceSub, ↓reduceIte, reduceCtorEq])⟩ ?_; simp (disch := (refine Om.mk ?_; omega)) only [go_sem, Nat.reduceAdd, Nat.reduceMul, Nat.reduceLT, Nat.reduceLeDiff, Nat.reduceEqDiff, Nat.reduceBEq, Nat.reduceSub, ↓reduceIte, reduceCtorEq])
    | (refine toF_go ?_; simp (disch := (refine Om.mk ?_; omega)) only [go_sem, Nat.reduceAdd, Nat.reduceMul, Nat.reduceLT, Nat.reduceLeDiff, Nat.reduceEqDiff, Nat.reduceBEq, Nat.reduceSub, ↓reduceIte, reduceCtorEq])
    | refine fun (K : List Oper → LS → Prop) (hK : KOk S 0 _ _ _ K) => ?_
    | refine sw_goD kp215 (by kernel_rfl) fun K hK => ?_
    | ((first | refine runL_go ?_ | refine runQ_go ?_); simp (disch := (refine Om.mk ?_; omega)) only [go_sem, Nat.reduceAdd, Nat.reduceMul, Nat.reduceLT, Nat.reduceLeDiff, Nat.reduceEqDiff, Nat.reduceBEq, Nat.reduceSub, ↓reduceIte, reduceCtorEq])
    | (refine hK.nil ?_; clear hK K; simp only [go_sem, Nat.reduceAdd, Nat.reduceMul, Nat.reduceLT, Nat.reduceLeDiff, Nat.reduceEqDiff, Nat.reduceBEq, Nat.reduceSub, ↓reduceIte, reduceCtorEq])
    | (refine sw_cond rfl (fun h => ?_) (fun h => ?_) <;> (try simp (disch := (refine Om.mk ?_; omega)) only [go_sem, Nat.reduceAdd, Nat.reduceMul, Nat.reduceLT, Nat.reduceLeDiff, Nat.reduceEqDiff, Nat.reduceBEq, Nat.reduceSub, ↓reduceIte, reduceCtorEq] at h))
    | (refine sw_exit rfl ?_)
    | (refine sw_loopEnd ?_)
    | ((first | refine sw_ret (ret0 ?_) | refine sw_ret ?_); simp (disch := (refine Om.mk ?_; omega)) only [go_sem, Nat.reduceAdd, Nat.reduceMul, Nat.reduceLT, Nat.reduceLeDiff, Nat.reduceEqDiff, Nat.reduceBEq, Nat.reduceSub, ↓reduceIte, reduceCtorEq, Try.results215])
    | (refine hK.own 40000 rfl rfl rfl (cloneH_fc .any r.l (by omega)) ⟨⟨by simp only [Nat.reduceLT], by simp [LS.getBox, Lg.look]⟩, rfl⟩ ?_; simp (disch := (refine Om.mk ?_; omega)) only [go_sem, Nat.reduceAdd, Nat.reduceMul, Nat.reduceLT, Nat.reduceLeDiff, Nat.reduceEqDiff, Nat.reduceBEq, Nat.reduceSub, ↓reduceIte, reduceCtorEq])
    | refine hK.call rfl rfl rfl (concatQ_fc .full [(r.conds.getD k default).r, r.r] (by simp) (by simp only [List.flatten_cons, List.flatten_nil, List.length_append, List.length_nil]; omega)) ⟨(by intro p hp; cases hp), rfl, rfl, (by simp only [dstOk, Nat.reduceLT])⟩ ?_
    | (with_reducible refine And.intro (by first | omega | (simp only [List.length_append, List.length_take, List.length_drop, List.length_cons, List.length_nil]; omega)) ?_)
    | ((with_reducible refine And.intro ?_ ?_); · first | (intro x hx; subst hx; rfl) | exact upR_mem fun _ _ => rfl | exact mapR_mem fun _ _ => rfl | (intro x; refine And.intro ?_ ?_ <;> (intros; subst_vars; rfl)))
    | fail
  refine sw_loopT (ι := Nat) (fun p => [(28, .int .i64 p), (5, .sl (.own 40000 2 1) ((heldA r (min p k)).map (.int .i64))), (6, .sl .any ((heldB r k p).map (.int .i64)))]) (fun _ => []) (fun _ => [40000]) (fun p => p ≤ r.conds.length) (fun p => r.conds.length - p) 0 (by (refine covers_mk0 rfl rfl ?_ ?_ ?_ ?_ <;> simp (disch := (refine Om.mk ?_; omega)) only [go_sem, Nat.reduceAdd, Nat.reduceMul, Nat.reduceLT, Nat.reduceLeDiff, Nat.reduceEqDiff, Nat.reduceBEq, Nat.reduceSub, ↓reduceIte, reduceCtorEq] <;> (try omega)); exact ⟨by simp [heldA], by simp [heldB], rfl⟩) (by omega) (fun p hp => ?_)
  simp only [go_sem, Nat.reduceAdd, Nat.reduceMul, Nat.reduceLT, Nat.reduceLeDiff, Nat.reduceEqDiff, Nat.reduceBEq, Nat.reduceSub, ↓reduceIte, reduceCtorEq]
  have hal := heldA_len h0 (min p k) (by omega)
  have hbl := heldB_len h0 p (by omega)
  have hcr : (r.conds.getD p default).r.length ≤ 60 ∧ (r.conds.getD p default).l.length ≤ 60 := by
    rcases Nat.lt_or_ge p r.conds.length with h | h
    · exact ⟨(h0.hc p h).2.1, (h0.hc p h).1.1⟩
    · rw [show r.conds.getD p default = default by simp [List.getD, List.getElem?_eq_none h]]
      exact ⟨Nat.zero_le _, Nat.zero_le _⟩
  have hB1 : k < p → heldB r k (p + 1) = heldB r k p ++ (r.conds.getD p default).l ++ (r.conds.getD p default).r := fun h => by simp only [heldB]; rw [if_pos h]
  have hB0 : ¬ k < p → heldB r k (p + 1) = heldB r k p := fun h => by simp only [heldB]; rw [if_neg h]
  obtain ⟨hc1, hc2⟩ := hcr
  repeat' first
    | exact Bool.noConfusion h
    | refine sw_seq ?_
    | refine sw_block ?_
    | refine sw_skip ?_
    | refine sw_inBlock ?_
    | refine sw_go 0 kp215 fun K hK => ?_
    | refine fun (K : List Oper → LS → Prop) (hK : KOk S 0 _ _ _ K) => ?_
    | refine sw_goD kp215 (by kernel_rfl) fun K hK => ?_
    | ((first | refine runL_go ?_ | refine runQ_go ?_); simp (disch := (refine Om.mk ?_; omega)) only [go_sem, Nat.reduceAdd, Nat.reduceMul, Nat.reduceLT, Nat.reduceLeDiff, Nat.reduceEqDiff, Nat.reduceBEq, Nat.reduceSub, ↓reduceIte, reduceCtorEq])
    | (refine hK.nil ?_; clear hK K; simp only [go_sem, Nat.reduceAdd, Nat.reduceMul, Nat.reduceLT, Nat.reduceLeDiff, Nat.reduceEqDiff, Nat.reduceBEq, Nat.reduceSub, ↓reduceIte, reduceCtorEq])
    | (refine sw_cond rfl (fun h => ?_) (fun h => ?_) <;> (try simp (disch := (refine Om.mk ?_; omega)) only [go_sem, Nat.reduceAdd, Nat.reduceMul, Nat.reduceLT, Nat.reduceLeDiff, Nat.reduceEqDiff, Nat.reduceBEq, Nat.reduceSub, ↓reduceIte, reduceCtorEq] at h))
    | (refine sw_exit rfl ?_)
    | (refine sw_loopEnd ?_)
    | ((first | refine sw_ret (ret0 ?_) | refine sw_ret ?_); simp (disch := (refine Om.mk ?_; omega)) only [go_sem, Nat.reduceAdd, Nat.reduceMul, Nat.reduceLT, Nat.reduceLeDiff, Nat.reduceEqDiff, Nat.reduceBEq, Nat.reduceSub, ↓reduceIte, reduceCtorEq, Try.results215])
    | refine hK.call rfl rfl rfl (concatQ_fc .full [heldB r k p, (r.conds.getD p default).l, (r.conds.getD p default).r] (by simp) (by simp only [List.flatten_cons, List.flatten_nil, List.length_append, List.length_nil]; omega)) ⟨(by intro p hp; cases hp), rfl, rfl, (by simp only [dstOk, Nat.reduceLT])⟩ ?_
    | refine hK.call rfl rfl rfl (varsIn_fc _ (heldA r (min p k))) ⟨(by intro p hp; cases hp), rfl, rfl, (by simp only [dstOk, Nat.reduceLT])⟩ ?_
    | (with_reducible refine And.intro (by first | omega | (simp only [List.length_append, List.length_take, List.length_drop, List.length_cons, List.length_nil]; omega)) ?_)
    | ((with_reducible refine And.intro ?_ ?_); · first | (intro x hx; subst hx; rfl) | exact upR_mem fun _ _ => rfl | exact mapR_mem fun _ _ => rfl | (intro x; refine And.intro ?_ ?_ <;> (intros; subst_vars; rfl)))
    | fail
  · exfalso; omega
  · have e : min p k = p := by omega
    have e2 : min (p + 1) k = p + 1 := by omega
    exact ⟨p + 1, (by (refine covers_mk0 rfl rfl ?_ ?_ ?_ ?_ <;> simp (disch := (refine Om.mk ?_; omega)) only [go_sem, Nat.reduceAdd, Nat.reduceMul, Nat.reduceLT, Nat.reduceLeDiff, Nat.reduceEqDiff, Nat.reduceBEq, Nat.reduceSub, ↓reduceIte, reduceCtorEq] <;> (try omega)); all_goals first | (rw [e, e2, hB0 (by omega)]; done) | (rw [e, e2, hB0 (by omega)]; exact ⟨rfl, rfl, by omega⟩)), by omega, by omega⟩
  · have e : min p k = k := by omega
    have e2 : min (p + 1) k = k := by omega
    exact ⟨p + 1, (by (refine covers_mk0 rfl rfl ?_ ?_ ?_ ?_ <;> simp (disch := (refine Om.mk ?_; omega)) only [go_sem, Nat.reduceAdd, Nat.reduceMul, Nat.reduceLT, Nat.reduceLeDiff, Nat.reduceEqDiff, Nat.reduceBEq, Nat.reduceSub, ↓reduceIte, reduceCtorEq] <;> (try omega)); all_goals first | (rw [e, e2, hB1 (by omega)]; done) | (rw [e, e2, hB1 (by omega)]; exact ⟨rfl, by simp, by omega⟩)), by omega, by omega⟩
  · have e : min p k = k := by omega
    have e2 : min (p + 1) k = k := by omega
    exact ⟨p + 1, (by (refine covers_mk0 rfl rfl ?_ ?_ ?_ ?_ <;> simp (disch := (refine Om.mk ?_; omega)) only [go_sem, Nat.reduceAdd, Nat.reduceMul, Nat.reduceLT, Nat.reduceLeDiff, Nat.reduceEqDiff, Nat.reduceBEq, Nat.reduceSub, ↓reduceIte, reduceCtorEq] <;> (try omega)); all_goals first | (rw [e, e2, hB0 (by omega)]; done) | (rw [e, e2, hB0 (by omega)]; exact ⟨rfl, rfl, by omega⟩)), by omega, by omega⟩
  obtain rfl : p = r.conds.length := by omega
  rw [show min r.conds.length k = k by omega]
  refine sw_tok 9 66000 2 1 rfl (.inl rfl) rfl ?_
  simp only [go_sem, Nat.reduceAdd, Nat.reduceMul, Nat.reduceLT, Nat.reduceLeDiff, Nat.reduceEqDiff, Nat.reduceBEq, Nat.reduceSub, ↓reduceIte, reduceCtorEq]
  refine sw_loopT (ι := Nat) (fun p => [(54, .int .i64 p), (9, .sl (.own 66000 2 1) ((heldG r k p).map (.int .i64)))]) (fun _ => []) (fun _ => [66000]) (fun p => p ≤ (heldV r k).length) (fun p => (heldV r k).length - p) 0 (by (refine covers_mk0 rfl rfl ?_ ?_ ?_ ?_ <;> simp (disch := (refine Om.mk ?_; omega)) only [go_sem, Nat.reduceAdd, Nat.reduceMul, Nat.reduceLT, Nat.reduceLeDiff, Nat.reduceEqDiff, Nat.reduceBEq, Nat.reduceSub, ↓reduceIte, reduceCtorEq] <;> (try omega)); exact ⟨rfl, rfl⟩) (by omega) (fun p hp => ?_)
  simp only [go_sem, Nat.reduceAdd, Nat.reduceMul, Nat.reduceLT, Nat.reduceLeDiff, Nat.reduceEqDiff, Nat.reduceBEq, Nat.reduceSub, ↓reduceIte, reduceCtorEq]
  have hgl := heldG_len r k p
  have hgs := heldG_succ r k p
  have hx24 : p < (varsI (heldA r k) 24).length → 0 ≤ (varsI (heldA r k) 24).getD p default ∧ (varsI (heldA r k) 24).getD p default < 24 := fun h => by
    have := List.mem_filter.1 (getD_mem (varsI (heldA r k) 24) p h)
    have := (mem_upTo 24 _).1 this.1
    omega
  simp only [heldV] at hgs hvl hp
  repeat' first
    | (refine sw_lab 4 pl (k := 66000) rfl (by simp) hpl ?_; simp only [go_sem, Nat.reduceAdd, Nat.reduceMul, Nat.reduceLT, Nat.reduceLeDiff, Nat.reduceEqDiff, Nat.reduceBEq, Nat.reduceSub, ↓reduceIte, reduceCtorEq])
    | exact Bool.noConfusion h
    | refine sw_seq ?_
    | refine sw_block ?_
    | refine sw_skip ?_
    | refine sw_inBlock ?_
    | refine sw_go 0 kp215 fun K hK => ?_
    | refine fun (K : List Oper → LS → Prop) (hK : KOk S 0 _ _ _ K) => ?_
    | refine sw_goD kp215 (by kernel_rfl) fun K hK => ?_
    | ((first | refine runL_go ?_ | refine runQ_go ?_); simp (disch := (refine Om.mk ?_; omega)) only [go_sem, Nat.reduceAdd, Nat.reduceMul, Nat.reduceLT, Nat.reduceLeDiff, Nat.reduceEqDiff, Nat.reduceBEq, Nat.reduceSub, ↓reduceIte, reduceCtorEq])
    | (refine hK.nil ?_; clear hK K; simp only [go_sem, Nat.reduceAdd, Nat.reduceMul, Nat.reduceLT, Nat.reduceLeDiff, Nat.reduceEqDiff, Nat.reduceBEq, Nat.reduceSub, ↓reduceIte, reduceCtorEq])
    | (refine sw_cond rfl (fun h => ?_) (fun h => ?_) <;> (try simp (disch := (refine Om.mk ?_; omega)) only [go_sem, Nat.reduceAdd, Nat.reduceMul, Nat.reduceLT, Nat.reduceLeDiff, Nat.reduceEqDiff, Nat.reduceBEq, Nat.reduceSub, ↓reduceIte, reduceCtorEq] at h))
    | (refine sw_exit rfl ?_)
    | (refine sw_loopEnd ?_)
    | ((first | refine sw_ret (ret0 ?_) | refine sw_ret ?_); simp (disch := (refine Om.mk ?_; omega)) only [go_sem, Nat.reduceAdd, Nat.reduceMul, Nat.reduceLT, Nat.reduceLeDiff, Nat.reduceEqDiff, Nat.reduceBEq, Nat.reduceSub, ↓reduceIte, reduceCtorEq, Try.results215])
    | refine hK.call rfl rfl rfl (contains_fc _ _ _) ⟨(by intro p hp; cases hp), rfl, rfl, (by simp only [dstOk, Nat.reduceLT])⟩ ?_
    | (with_reducible refine And.intro (by first | omega | (simp only [List.length_append, List.length_take, List.length_drop, List.length_cons, List.length_nil]; omega)) ?_)
    | ((with_reducible refine And.intro ?_ ?_); · first | (intro x hx; subst hx; rfl) | exact upR_mem fun _ _ => rfl | exact mapR_mem fun _ _ => rfl | (intro x; refine And.intro ?_ ?_ <;> (intros; subst_vars; rfl)))
    | fail
  · exact ⟨p + 1, (by (refine covers_mk0 rfl rfl ?_ ?_ ?_ ?_ <;> simp (disch := (refine Om.mk ?_; omega)) only [go_sem, Nat.reduceAdd, Nat.reduceMul, Nat.reduceLT, Nat.reduceLeDiff, Nat.reduceEqDiff, Nat.reduceBEq, Nat.reduceSub, ↓reduceIte, reduceCtorEq] <;> (try omega)); all_goals first | (rw [(hgs (by omega)).1 h]; done) | (rw [(hgs (by omega)).1 h]; exact ⟨rfl, by omega⟩)), by simp only [heldV]; omega, by simp only [heldV]; omega⟩
  · exact ⟨p + 1, (by (refine covers_mk0 rfl rfl ?_ ?_ ?_ ?_ <;> simp (disch := (refine Om.mk ?_; omega)) only [go_sem, Nat.reduceAdd, Nat.reduceMul, Nat.reduceLT, Nat.reduceLeDiff, Nat.reduceEqDiff, Nat.reduceBEq, Nat.reduceSub, ↓reduceIte, reduceCtorEq] <;> (try omega)); all_goals first | (rw [(hgs (by omega)).2 h]; done) | (rw [(hgs (by omega)).2 h]; exact ⟨rfl, by omega⟩)), by simp only [heldV]; omega, by simp only [heldV]; omega⟩
  · rw [show p = (heldV r k).length by simp only [heldV]; omega]
end Go.Proofs.Ytgbcnhbmfjkhmaa
