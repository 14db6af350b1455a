/-
  Unification: two terms with the same head.
-/
import Derived.Test.YtlcdahaihlflaaaU04
namespace Go.Proofs.Ytlcdahaihlflaaa
open Go Go.Lg
set_option linter.unusedSimpArgs false
set_option linter.unusedVariables false
set_option maxHeartbeats 4000000
attribute [local irreducible] SW runL runQ runG runQG FC Ret1 bD
theorem tksU_nat (ys : List Nat) : D.tksL (ys.map natD) = [] := by
  induction ys with
  | nil => rfl
  | cons y r ih => simp [D.tksL, D.tks, natD, ih]
def EqOk (rs : List Int) (rec : Bds → List Int → List Int → Option (Option Bds)) (id : Nat) : Prop := ∀ (β : Bds) (a b : List Int), BOK rs β → XT rs a → XT rs b →
  (∀ β', rec β a b = some (some β') → BOK rs β' ∧ FC S 88 [] [(id + 1000, uC rs β)] [] [.box (id + 1000) 0, .sl .any (a.map (.int .i64)), .sl .any (b.map (.int .i64))] (.tup []) [(id + 1000, uC rs β')] []) ∧
  (rec β a b = some none → FCX S 88 [] [(id + 1000, uC rs β)] [] [.box (id + 1000) 0, .sl .any (a.map (.int .i64)), .sl .any (b.map (.int .i64))] (chainE 125))
theorem pairsX_len (rs a b : List Int) : (pairsX rs a b).length = (argsS rs (phiL a) 0).length := by simp [pairsX]
theorem pairsX_drop (rs a b : List Int) {i : Nat} (h : i < (argsS rs (phiL a) 0).length) : (pairsX rs a b).drop i = (subX rs a ((argsS rs (phiL a) 0).getD i default), subX rs b ((argsS rs (phiL b) 0).getD i default)) :: (pairsX rs a b).drop (i + 1) := by
  rw [List.drop_eq_getElem_cons (by rw [pairsX_len]; exact h)]
  simp [pairsX]
theorem argsX_len {rs a b : List Int} (hA : XT rs a) (hB : XT rs b) (he : hd a = hd b) : (argsS rs (phiL b) 0).length = (argsS rs (phiL a) 0).length := by
  have h1 := hA.len
  have h2 := hB.len
  unfold argsS
  rw [begS_length, begS_length, phiL_get b 0 (by omega), phiL_get a 0 (by omega)]
  unfold hd at he
  rw [he]
theorem argsX_lt {rs a : List Int} (hA : XT rs a) {i : Nat} (hi : i < (argsS rs (phiL a) 0).length) : (argsS rs (phiL a) 0).getD i default < a.length := by
  have h1 := hA.len
  have := (argsS_lt hA.1 (a := 0) (by rw [phiL_len]; omega) _ (getD_mem _ i hi)).2
  rwa [phiL_len] at this
theorem pairsX_ok {rs a b : List Int} (hA : XT rs a) (hB : XT rs b) (he : hd a = hd b) : ∀ p ∈ pairsX rs a b, XT rs p.1 ∧ XT rs p.2 := fun p hp => by
  obtain ⟨k, hk, rfl⟩ := List.mem_map.1 hp
  have hk := List.mem_range.1 hk
  exact ⟨subX_ok hA (argsX_lt hA hk), subX_ok hB (argsX_lt hB (by rw [argsX_len hA hB he]; exact hk))⟩
theorem eqL_ok {rs : List Int} {rec : Bds → List Int → List Int → Option (Option Bds)} {id : Nat} (hr : EqOk rs rec id) : ∀ {ps : List (List Int × List Int)} {β β' : Bds}, (∀ p ∈ ps, XT rs p.1 ∧ XT rs p.2) → BOK rs β → eqL rec ps β = some (some β') → BOK rs β'
  | [], β, β', _, hβ, h => by obtain rfl := Option.some.inj (Option.some.inj h); exact hβ
  | p :: r, β, β', hp, hβ, h => by
    unfold eqL at h
    split at h
    · cases h
    · cases h
    · rename_i δ hx
      have h0 := hp p (List.mem_cons_self ..)
      exact eqL_ok hr (fun q hq => hp q (List.mem_cons_of_mem _ hq)) ((hr β _ _ hβ h0.1 h0.2).1 δ hx).1 h
theorem equateL_fc (id : Nat) (rs : List Int) (g : Nat) (β : Bds) (hβ : BOK rs β) (a b a1 b1 : List Int) (hA : XT rs a) (hB : XT rs b) (h1 : rootM β g a = some a1) (h2 : rootM β g b = some b1) (rec : Bds → List Int → List Int → Option (Option Bds)) (hr : EqOk rs rec id) (β' : Bds) (hl : eqL rec (pairsX rs a1 b1) β = some (some β')) (he : hd a1 = hd b1) (h0 : 0 ≤ hd a1) : FC S 88 [] [(id + 1000, uC rs β)] [] [.box (id + 1000) 0, .sl .any (a.map (.int .i64)), .sl .any (b.map (.int .i64))] (.tup []) [(id + 1000, uC rs β')] [] := by
  have c1 := root_fc (id + 1000) rs β hβ g a a1 h1 hA
  have c2 := root_fc (id + 1000) rs β hβ g b b1 h2 hB
  have hA1 := rootM_ok hβ h1 hA
  have hB1 := rootM_ok hβ h2 hB
  have hla := hA1.len
  have hlb := hB1.len
  have hga := hA1.get (a := 0) (by omega)
  have hgb := hB1.get (a := 0) (by omega)
  have hlβ := hβ.1
  have hlen := argsX_len hA1 hB1 he
  have hn8 : (argsS rs (phiL a1) 0).length ≤ 60 := by
    unfold argsS; rw [begS_length]
    have := arS_rng hA1.1.1 ((phiL a1).getD 0 default)
    omega
  have cP := argsAtX_fc .any .any rs a1 0 hA1 (by omega)
  have cQ := argsAtX_fc .any .any rs b1 0 hB1 (by omega)
  unfold uC at *
  unfold hd at *
  refine fc_body Try.func88 rfl (by kernel_rfl) (by simp [Try.f88]) fun B => ?_
  simp only [Try.ntmps88, enumD, List.map_nil, List.map_cons, List.length_map, Nat.zero_add, Nat.reduceAdd]
  repeat' first
    | ((exfalso; omega))
    | exact Bool.noConfusion h
    | refine sw_seq ?_
    | refine sw_block ?_
    | refine sw_skip ?_
    | refine sw_inBlock ?_
    | refine sw_go 0 kp88 fun K hK => ?_
    | refine sw_goT 0 kp88 9 (id := 7) (by kernel_rfl) fun K hK => ?_
    | refine fun (K : List Oper → LS → Prop) (hK : KOk S 0 _ _ _ K) => ?_
    | refine sw_goD kp88 (by kernel_rfl) fun K hK => ?_
    | ((first | refine runL_go ?_ | refine runQ_go ?_); simp (disch := (refine Om.mk ?_; omega)) only [go_sem])
    | (refine hK.nil ?_; clear hK K; simp only [go_sem])
    | (refine runG_fork rfl rfl rfl rfl rfl (fun h => ?_) (fun h => ?_) <;> (try simp (disch := (refine Om.mk ?_; omega)) only [go_sem] at h))
    | (refine runQG_fork rfl rfl rfl rfl rfl (fun h => ?_) (fun h => ?_) <;> (try simp (disch := (refine Om.mk ?_; omega)) only [go_sem] at h))
    | (refine hK.skip rfl (by simp only [dstOk, Nat.reduceLT]) ?_)
    | (refine sw_cond rfl (fun h => ?_) (fun h => ?_) <;> (try simp (disch := (refine Om.mk ?_; omega)) only [go_sem] at h))
    | (refine sw_exit rfl ?_)
    | (refine sw_loopEnd ?_)
    | ((first | refine sw_ret (ret0 ?_) | refine sw_ret ?_); simp (disch := (refine Om.mk ?_; omega)) only [go_sem, Try.results88])
    | refine hK.call rfl rfl rfl (c1) ⟨(by simp [LS.getBox, Lg.look]), rfl, rfl, (by simp only [dstOk, Nat.reduceLT])⟩ ?_
    | refine hK.call rfl rfl rfl (c2) ⟨(by simp [LS.getBox, Lg.look]), rfl, rfl, (by simp only [dstOk, Nat.reduceLT])⟩ ?_
    | refine hK.call rfl rfl rfl (cP) ⟨(by intro p hp; cases hp), rfl, rfl, (by simp only [dstOk, Nat.reduceLT])⟩ ?_
    | refine hK.call rfl rfl rfl (cQ) ⟨(by intro p hp; cases hp), rfl, rfl, (by simp only [dstOk, Nat.reduceLT])⟩ ?_
    | (refine hK.fork rfl rfl rfl (fun h => ?_) (fun h => ?_) <;> (try simp (disch := (refine Om.mk ?_; omega)) only [go_sem] at h))
    | (with_reducible refine And.intro (by first | omega | (simp only [List.length_append, List.length_take, List.length_drop, List.length_cons, List.length_nil, List.length_map]; omega)) ?_)
    | ((with_reducible refine And.intro ?_ ?_); · first | (intro x hx; subst hx; rfl) | exact upR_mem fun _ _ => rfl | exact mapR_mem fun _ _ => rfl | (intro x; refine And.intro ?_ ?_ <;> (intros; subst_vars; rfl)))
    | fail
  refine sw_loopU (ι := Nat × Bds) (fun p => [(101, .int .i64 p.1)]) (fun p => [(id + 1000, D.sl .any (rs.map (.int .i64)) :: p.2.map bD)]) (fun p => (p.1 ≤ (argsS rs (phiL a1) 0).length ∧ BOK rs p.2) ∧ eqL rec ((pairsX rs a1 b1).drop p.1) p.2 = some (some β')) (fun p => (argsS rs (phiL a1) 0).length - p.1) (0, β) (by (refine covers_mk0 rfl rfl ?_ ?_ ?_ ?_ <;> simp (disch := (refine Om.mk ?_; omega)) only [go_sem] <;> (try omega))) ?_ (fun p hp => ?_)
  rotate_left
  simp only [go_sem]
  obtain ⟨i, γ⟩ := p
  obtain ⟨⟨hi, hγ⟩, h3⟩ := hp
  dsimp only at hi hγ h3
  by_cases hil : i < (argsS rs (phiL a1) 0).length
  · rw [pairsX_drop rs a1 b1 hil] at h3
    have hXa := subX_ok hA1 (argsX_lt hA1 hil)
    have hXb := subX_ok hB1 (argsX_lt hB1 (i := i) (by omega))
    have cS := subAtX_fc .any .any rs a1 _ hA1 (argsX_lt hA1 hil)
    have cT := subAtX_fc .any .any rs b1 _ hB1 (argsX_lt hB1 (i := i) (by omega))
    unfold eqL at h3
    dsimp only at h3
    obtain ⟨δ, hδ⟩ : ∃ δ, rec γ (subX rs a1 ((argsS rs (phiL a1) 0).getD i default)) (subX rs b1 ((argsS rs (phiL b1) 0).getD i default)) = some (some δ) := by
      split at h3
      · cases h3
      · cases h3
      · rename_i δ hx; exact ⟨δ, hx⟩
    rw [hδ] at h3
    dsimp only at h3
    obtain ⟨hδB, cE⟩ := (hr γ _ _ hγ hXa hXb).1 δ hδ
    unfold uC at cE
    repeat' first
      | ((exfalso; omega))
      | ((refine hK.callB rfl rfl rfl (cE) ⟨⟨by simp only [Nat.reduceLT], (by simp [-List.map_set, LS.getBox, Lg.look]), (by simp [-List.map_set, Lg.look]), (by simp), (by simp)⟩, ⟨by simp [-List.map_set, D.ids, D.idsL, idsL_bool, idsL_bD], by simp [-List.map_set, D.ids, D.idsL, idsL_bool, idsL_bD], by simp [-List.map_set, D.tks, D.tksL, tksU_ints, tksL_bool, tksL_bD], by simp [-List.map_set, D.tks, D.tksL, tksU_ints, tksL_bool, tksL_bD], by simp⟩, (by simp [-List.map_set, LS.clean, D.puOk, D.pu, D.pu1, D.tks, D.tksL, tksU_ints, tksL_bool, tksL_bD, puOk_intsU, puOk_bool, puOk_bD, inTok])⟩ ?_; simp (disch := (refine Om.mk ?_; omega)) only [go_sem]))
      | exact Bool.noConfusion h
      | refine sw_seq ?_
      | refine sw_block ?_
      | refine sw_skip ?_
      | refine sw_inBlock ?_
      | refine sw_go 0 kp88 fun K hK => ?_
      | refine sw_goT 0 kp88 9 (id := 7) (by kernel_rfl) fun K hK => ?_
      | refine sw_goT 0 kp88 21 (id := 14) (by kernel_rfl) fun K hK => ?_
      | refine fun (K : List Oper → LS → Prop) (hK : KOk S 0 _ _ _ K) => ?_
      | refine sw_goD kp88 (by kernel_rfl) fun K hK => ?_
      | ((first | refine runL_go ?_ | refine runQ_go ?_); simp (disch := (refine Om.mk ?_; omega)) only [go_sem])
      | (refine hK.nil ?_; clear hK K; simp only [go_sem])
      | (refine runG_fork rfl rfl rfl rfl rfl (fun h => ?_) (fun h => ?_) <;> (try simp (disch := (refine Om.mk ?_; omega)) only [go_sem] at h))
      | (refine runQG_fork rfl rfl rfl rfl rfl (fun h => ?_) (fun h => ?_) <;> (try simp (disch := (refine Om.mk ?_; omega)) only [go_sem] at h))
      | (refine hK.skip rfl (by simp only [dstOk, Nat.reduceLT]) ?_)
      | (refine sw_cond rfl (fun h => ?_) (fun h => ?_) <;> (try simp (disch := (refine Om.mk ?_; omega)) only [go_sem] at h))
      | (refine sw_exit rfl ?_)
      | (refine sw_loopEnd ?_)
      | ((first | refine sw_ret (ret0 ?_) | refine sw_ret ?_); simp (disch := (refine Om.mk ?_; omega)) only [go_sem, Try.results88])
      | refine hK.call rfl rfl rfl (cS) ⟨(by intro p hp; cases hp), rfl, rfl, (by simp only [dstOk, Nat.reduceLT])⟩ ?_
      | refine hK.call rfl rfl rfl (cT) ⟨(by intro p hp; cases hp), rfl, rfl, (by simp only [dstOk, Nat.reduceLT])⟩ ?_
      | (refine hK.fork rfl rfl rfl (fun h => ?_) (fun h => ?_) <;> (try simp (disch := (refine Om.mk ?_; omega)) only [go_sem] at h))
      | (with_reducible refine And.intro (by first | omega | (simp only [List.length_append, List.length_take, List.length_drop, List.length_cons, List.length_nil, List.length_map]; omega)) ?_)
      | ((with_reducible refine And.intro ?_ ?_); · first | (intro x hx; subst hx; rfl) | exact upR_mem fun _ _ => rfl | exact mapR_mem fun _ _ => rfl | (intro x; refine And.intro ?_ ?_ <;> (intros; subst_vars; rfl)))
      | fail
    all_goals exact ⟨(i + 1, δ), (by (refine covers_mk0 rfl rfl ?_ ?_ ?_ ?_ <;> simp (disch := (refine Om.mk ?_; omega)) only [go_sem] <;> (try omega))), ⟨⟨by omega, hδB⟩, h3⟩, by omega⟩
  · rw [List.drop_of_length_le (by rw [pairsX_len]; omega)] at h3
    obtain rfl := Option.some.inj (Option.some.inj h3)
    repeat' first
      | ((exfalso; omega))
      | exact Bool.noConfusion h
      | refine sw_seq ?_
      | refine sw_block ?_
      | refine sw_skip ?_
      | refine sw_inBlock ?_
      | refine sw_go 0 kp88 fun K hK => ?_
      | refine sw_goT 0 kp88 9 (id := 7) (by kernel_rfl) fun K hK => ?_
      | refine fun (K : List Oper → LS → Prop) (hK : KOk S 0 _ _ _ K) => ?_
      | refine sw_goD kp88 (by kernel_rfl) fun K hK => ?_
      | ((first | refine runL_go ?_ | refine runQ_go ?_); simp (disch := (refine Om.mk ?_; omega)) only [go_sem])
      | (refine hK.nil ?_; clear hK K; simp only [go_sem])
      | (refine runG_fork rfl rfl rfl rfl rfl (fun h => ?_) (fun h => ?_) <;> (try simp (disch := (refine Om.mk ?_; omega)) only [go_sem] at h))
      | (refine runQG_fork rfl rfl rfl rfl rfl (fun h => ?_) (fun h => ?_) <;> (try simp (disch := (refine Om.mk ?_; omega)) only [go_sem] at h))
      | (refine hK.skip rfl (by simp only [dstOk, Nat.reduceLT]) ?_)
      | (refine sw_cond rfl (fun h => ?_) (fun h => ?_) <;> (try simp (disch := (refine Om.mk ?_; omega)) only [go_sem] at h))
      | (refine sw_exit rfl ?_)
      | (refine sw_loopEnd ?_)
      | ((first | refine sw_ret (ret0 ?_) | refine sw_ret ?_); simp (disch := (refine Om.mk ?_; omega)) only [go_sem, Try.results88])
      | (refine hK.fork rfl rfl rfl (fun h => ?_) (fun h => ?_) <;> (try simp (disch := (refine Om.mk ?_; omega)) only [go_sem] at h))
      | (with_reducible refine And.intro (by first | omega | (simp only [List.length_append, List.length_take, List.length_drop, List.length_cons, List.length_nil, List.length_map]; omega)) ?_)
      | ((with_reducible refine And.intro ?_ ?_); · first | (intro x hx; subst hx; rfl) | exact upR_mem fun _ _ => rfl | exact mapR_mem fun _ _ => rfl | (intro x; refine And.intro ?_ ?_ <;> (intros; subst_vars; rfl)))
      | fail
    refine sw_nil ?_
    simp only [go_sem, Try.results88]
    all_goals trace_state
  · exact ⟨⟨by omega, hβ⟩, hl⟩
theorem equateM_fc (id : Nat) (rs : List Int) (g : Nat) (β : Bds) (hβ : BOK rs β) (a b a1 b1 : List Int) (hA : XT rs a) (hB : XT rs b) (h1 : rootM β g a = some a1) (h2 : rootM β g b = some b1) (rec : Bds → List Int → List Int → Option (Option Bds)) (hr : EqOk rs rec id) (hl : eqL rec (pairsX rs a1 b1) β = some none) (he : hd a1 = hd b1) (h0 : 0 ≤ hd a1) : FCX S 88 [] [(id + 1000, uC rs β)] [] [.box (id + 1000) 0, .sl .any (a.map (.int .i64)), .sl .any (b.map (.int .i64))] (chainE 125) := by
  have c1 := root_fc (id + 1000) rs β hβ g a a1 h1 hA
  have c2 := root_fc (id + 1000) rs β hβ g b b1 h2 hB
  have hA1 := rootM_ok hβ h1 hA
  have hB1 := rootM_ok hβ h2 hB
  have hla := hA1.len
  have hlb := hB1.len
  have hga := hA1.get (a := 0) (by omega)
  have hgb := hB1.get (a := 0) (by omega)
  have hlβ := hβ.1
  have hlen := argsX_len hA1 hB1 he
  have hn8 : (argsS rs (phiL a1) 0).length ≤ 60 := by
    unfold argsS; rw [begS_length]
    have := arS_rng hA1.1.1 ((phiL a1).getD 0 default)
    omega
  have cP := argsAtX_fc .any .any rs a1 0 hA1 (by omega)
  have cQ := argsAtX_fc .any .any rs b1 0 hB1 (by omega)
  unfold uC at *
  unfold hd at *
  refine fcx_body Try.func88 rfl (by kernel_rfl) (by simp [Try.f88]) fun B hp hp1 => ?_
  simp only [Try.ntmps88, enumD, List.map_nil, List.map_cons, List.length_map, Nat.zero_add, Nat.reduceAdd]
  repeat' first
    | ((exfalso; omega))
    | exact Bool.noConfusion h
    | refine sw_seq ?_
    | refine sw_block ?_
    | refine sw_skip ?_
    | refine sw_inBlock ?_
    | refine sw_go 0 kp88 fun K hK => ?_
    | refine sw_goT 0 kp88 9 (id := 7) (by kernel_rfl) fun K hK => ?_
    | refine fun (K : List Oper → LS → Prop) (hK : KOk S 0 _ _ _ K) => ?_
    | refine sw_goD kp88 (by kernel_rfl) fun K hK => ?_
    | ((first | refine runL_go ?_ | refine runQ_go ?_); simp (disch := (refine Om.mk ?_; omega)) only [go_sem])
    | (refine hK.nil ?_; clear hK K; simp only [go_sem])
    | (refine runG_fork rfl rfl rfl rfl rfl (fun h => ?_) (fun h => ?_) <;> (try simp (disch := (refine Om.mk ?_; omega)) only [go_sem] at h))
    | (refine runQG_fork rfl rfl rfl rfl rfl (fun h => ?_) (fun h => ?_) <;> (try simp (disch := (refine Om.mk ?_; omega)) only [go_sem] at h))
    | (refine hK.skip rfl (by simp only [dstOk, Nat.reduceLT]) ?_)
    | (refine sw_cond rfl (fun h => ?_) (fun h => ?_) <;> (try simp (disch := (refine Om.mk ?_; omega)) only [go_sem] at h))
    | (refine sw_exit rfl ?_)
    | (refine sw_loopEnd ?_)
    | ((first | refine sw_ret (ret0 ?_) | refine sw_ret ?_); simp (disch := (refine Om.mk ?_; omega)) only [go_sem, Try.results88])
    | refine hK.call rfl rfl rfl (c1) ⟨(by simp [LS.getBox, Lg.look]), rfl, rfl, (by simp only [dstOk, Nat.reduceLT])⟩ ?_
    | refine hK.call rfl rfl rfl (c2) ⟨(by simp [LS.getBox, Lg.look]), rfl, rfl, (by simp only [dstOk, Nat.reduceLT])⟩ ?_
    | refine hK.call rfl rfl rfl (cP) ⟨(by intro p hp; cases hp), rfl, rfl, (by simp only [dstOk, Nat.reduceLT])⟩ ?_
    | refine hK.call rfl rfl rfl (cQ) ⟨(by intro p hp; cases hp), rfl, rfl, (by simp only [dstOk, Nat.reduceLT])⟩ ?_
    | (refine hK.fork rfl rfl rfl (fun h => ?_) (fun h => ?_) <;> (try simp (disch := (refine Om.mk ?_; omega)) only [go_sem] at h))
    | (with_reducible refine And.intro (by first | omega | (simp only [List.length_append, List.length_take, List.length_drop, List.length_cons, List.length_nil, List.length_map]; omega)) ?_)
    | ((with_reducible refine And.intro ?_ ?_); · first | (intro x hx; subst hx; rfl) | exact upR_mem fun _ _ => rfl | exact mapR_mem fun _ _ => rfl | (intro x; refine And.intro ?_ ?_ <;> (intros; subst_vars; rfl)))
    | fail
  refine sw_loopU (ι := Nat × Bds) (fun p => [(101, .int .i64 p.1)]) (fun p => [(id + 1000, D.sl .any (rs.map (.int .i64)) :: p.2.map bD)]) (fun p => (p.1 ≤ (argsS rs (phiL a1) 0).length ∧ BOK rs p.2) ∧ eqL rec ((pairsX rs a1 b1).drop p.1) p.2 = some none) (fun p => (argsS rs (phiL a1) 0).length - p.1) (0, β) (by (refine covers_mk0 rfl rfl ?_ ?_ ?_ ?_ <;> simp (disch := (refine Om.mk ?_; omega)) only [go_sem] <;> (try omega))) ?_ (fun p hp => ?_)
  rotate_left
  simp only [go_sem]
  obtain ⟨i, γ⟩ := p
  obtain ⟨⟨hi, hγ⟩, h3⟩ := hp
  dsimp only at hi hγ h3
  by_cases hil : i < (argsS rs (phiL a1) 0).length
  · rw [pairsX_drop rs a1 b1 hil] at h3
    have hXa := subX_ok hA1 (argsX_lt hA1 hil)
    have hXb := subX_ok hB1 (argsX_lt hB1 (i := i) (by omega))
    have cS := subAtX_fc .any .any rs a1 _ hA1 (argsX_lt hA1 hil)
    have cT := subAtX_fc .any .any rs b1 _ hB1 (argsX_lt hB1 (i := i) (by omega))
    unfold eqL at h3
    dsimp only at h3
    have hR := hr γ _ _ hγ hXa hXb
    cases hx : rec γ (subX rs a1 ((argsS rs (phiL a1) 0).getD i default)) (subX rs b1 ((argsS rs (phiL b1) 0).getD i default)) with
    | none => rw [hx] at h3; cases h3
    | some o =>
      rw [hx] at h3
      cases o with
      | none =>
        have cE := hR.2 hx
        unfold uC at cE
        repeat' first
          | ((exfalso; omega))
          | ((refine sw_goTP 21 (id := 14) (by kernel_rfl) fun K hK => ?_))
          | exact Bool.noConfusion h
          | refine sw_seq ?_
          | refine sw_block ?_
          | refine sw_skip ?_
          | refine sw_inBlock ?_
          | refine sw_go 0 kp88 fun K hK => ?_
          | refine sw_goT 0 kp88 9 (id := 7) (by kernel_rfl) fun K hK => ?_
          | refine fun (K : List Oper → LS → Prop) (hK : KOk S 0 _ _ _ K) => ?_
          | refine sw_goD kp88 (by kernel_rfl) fun K hK => ?_
          | ((first | refine runL_go ?_ | refine runQ_go ?_); simp (disch := (refine Om.mk ?_; omega)) only [go_sem])
          | (refine hK.nil ?_; clear hK K; simp only [go_sem])
          | (refine runG_fork rfl rfl rfl rfl rfl (fun h => ?_) (fun h => ?_) <;> (try simp (disch := (refine Om.mk ?_; omega)) only [go_sem] at h))
          | (refine runQG_fork rfl rfl rfl rfl rfl (fun h => ?_) (fun h => ?_) <;> (try simp (disch := (refine Om.mk ?_; omega)) only [go_sem] at h))
          | (refine hK.skip rfl (by simp only [dstOk, Nat.reduceLT]) ?_)
          | (refine sw_cond rfl (fun h => ?_) (fun h => ?_) <;> (try simp (disch := (refine Om.mk ?_; omega)) only [go_sem] at h))
          | (refine sw_exit rfl ?_)
          | (refine sw_loopEnd ?_)
          | ((first | refine sw_ret (ret0 ?_) | refine sw_ret ?_); simp (disch := (refine Om.mk ?_; omega)) only [go_sem, Try.results88])
          | refine hK.call rfl rfl rfl (cS) ⟨(by intro p hp; cases hp), rfl, rfl, (by simp only [dstOk, Nat.reduceLT])⟩ ?_
          | refine hK.call rfl rfl rfl (cT) ⟨(by intro p hp; cases hp), rfl, rfl, (by simp only [dstOk, Nat.reduceLT])⟩ ?_
          | (refine hK.fork rfl rfl rfl (fun h => ?_) (fun h => ?_) <;> (try simp (disch := (refine Om.mk ?_; omega)) only [go_sem] at h))
          | (with_reducible refine And.intro (by first | omega | (simp only [List.length_append, List.length_take, List.length_drop, List.length_cons, List.length_nil, List.length_map]; omega)) ?_)
          | ((with_reducible refine And.intro ?_ ?_); · first | (intro x hx; subst hx; rfl) | exact upR_mem fun _ _ => rfl | exact mapR_mem fun _ _ => rfl | (intro x; refine And.intro ?_ ?_ <;> (intros; subst_vars; rfl)))
          | fail
        try simp only [List.drop_succ_cons, List.drop_zero]
        refine LopsP.call rfl rfl rfl cE hp ⟨by simp, by simp [Lg.look], by simp⟩ 1000000 (by simp [-List.map_set, LS.clean, D.tks, D.tksL, tksU_ints, tksL_bool, tksL_bD, tksU_nat, inTok])
      | some δ =>
        dsimp only at h3
        obtain ⟨hδB, cE⟩ := hR.1 δ hx
        unfold uC at cE
        repeat' first
          | ((exfalso; omega))
          | ((refine hK.callB rfl rfl rfl (cE) ⟨⟨by simp only [Nat.reduceLT], (by simp [-List.map_set, LS.getBox, Lg.look]), (by simp [-List.map_set, Lg.look]), (by simp), (by simp)⟩, ⟨by simp [-List.map_set, D.ids, D.idsL, idsL_bool, idsL_bD], by simp [-List.map_set, D.ids, D.idsL, idsL_bool, idsL_bD], by simp [-List.map_set, D.tks, D.tksL, tksU_ints, tksL_bool, tksL_bD], by simp [-List.map_set, D.tks, D.tksL, tksU_ints, tksL_bool, tksL_bD], by simp⟩, (by simp [-List.map_set, LS.clean, D.puOk, D.pu, D.pu1, D.tks, D.tksL, tksU_ints, tksL_bool, tksL_bD, puOk_intsU, puOk_bool, puOk_bD, inTok])⟩ ?_; simp (disch := (refine Om.mk ?_; omega)) only [go_sem]))
          | exact Bool.noConfusion h
          | refine sw_seq ?_
          | refine sw_block ?_
          | refine sw_skip ?_
          | refine sw_inBlock ?_
          | refine sw_go 0 kp88 fun K hK => ?_
          | refine sw_goT 0 kp88 9 (id := 7) (by kernel_rfl) fun K hK => ?_
          | refine sw_goT 0 kp88 21 (id := 14) (by kernel_rfl) fun K hK => ?_
          | refine fun (K : List Oper → LS → Prop) (hK : KOk S 0 _ _ _ K) => ?_
          | refine sw_goD kp88 (by kernel_rfl) fun K hK => ?_
          | ((first | refine runL_go ?_ | refine runQ_go ?_); simp (disch := (refine Om.mk ?_; omega)) only [go_sem])
          | (refine hK.nil ?_; clear hK K; simp only [go_sem])
          | (refine runG_fork rfl rfl rfl rfl rfl (fun h => ?_) (fun h => ?_) <;> (try simp (disch := (refine Om.mk ?_; omega)) only [go_sem] at h))
          | (refine runQG_fork rfl rfl rfl rfl rfl (fun h => ?_) (fun h => ?_) <;> (try simp (disch := (refine Om.mk ?_; omega)) only [go_sem] at h))
          | (refine hK.skip rfl (by simp only [dstOk, Nat.reduceLT]) ?_)
          | (refine sw_cond rfl (fun h => ?_) (fun h => ?_) <;> (try simp (disch := (refine Om.mk ?_; omega)) only [go_sem] at h))
          | (refine sw_exit rfl ?_)
          | (refine sw_loopEnd ?_)
          | ((first | refine sw_ret (ret0 ?_) | refine sw_ret ?_); simp (disch := (refine Om.mk ?_; omega)) only [go_sem, Try.results88])
          | refine hK.call rfl rfl rfl (cS) ⟨(by intro p hp; cases hp), rfl, rfl, (by simp only [dstOk, Nat.reduceLT])⟩ ?_
          | refine hK.call rfl rfl rfl (cT) ⟨(by intro p hp; cases hp), rfl, rfl, (by simp only [dstOk, Nat.reduceLT])⟩ ?_
          | (refine hK.fork rfl rfl rfl (fun h => ?_) (fun h => ?_) <;> (try simp (disch := (refine Om.mk ?_; omega)) only [go_sem] at h))
          | (with_reducible refine And.intro (by first | omega | (simp only [List.length_append, List.length_take, List.length_drop, List.length_cons, List.length_nil, List.length_map]; omega)) ?_)
          | ((with_reducible refine And.intro ?_ ?_); · first | (intro x hx; subst hx; rfl) | exact upR_mem fun _ _ => rfl | exact mapR_mem fun _ _ => rfl | (intro x; refine And.intro ?_ ?_ <;> (intros; subst_vars; rfl)))
          | fail
        all_goals exact ⟨(i + 1, δ), (by (refine covers_mk0 rfl rfl ?_ ?_ ?_ ?_ <;> simp (disch := (refine Om.mk ?_; omega)) only [go_sem] <;> (try omega))), ⟨⟨by omega, hδB⟩, h3⟩, by omega⟩
  · rw [List.drop_of_length_le (by rw [pairsX_len]; omega)] at h3
    cases h3
  · exact ⟨⟨by omega, hβ⟩, hl⟩
theorem equate_ok (rs : List Int) (g id : Nat) : ∀ f, EqOk rs (eqM rs g f) id
  | 0 => fun β a b _ _ _ => ⟨fun _ h => (by cases h), fun h => (by cases h)⟩
  | f + 1 => fun β a b hβ hA hB => by
    have ih := equate_ok rs g id f
    cases h1 : rootM β g a with
    | none => exact ⟨fun _ h => (by simp [eqM, h1] at h), fun h => (by simp [eqM, h1] at h)⟩
    | some a1 =>
      cases h2 : rootM β g b with
      | none => exact ⟨fun _ h => (by simp [eqM, h1, h2] at h), fun h => (by simp [eqM, h1, h2] at h)⟩
      | some b1 =>
        have hA1 := rootM_ok hβ h1 hA
        have hB1 := rootM_ok hβ h2 hB
        have e : eqM rs g (f + 1) β a b = eqB rs g (eqM rs g f) β a1 b1 := by simp [eqM, h1, h2]
        rw [e]
        unfold eqB
        by_cases k1 : hd a1 = hd b1 ∧ hd a1 < 0
        · rw [if_pos k1]
          exact ⟨fun β' h => (by obtain rfl := Option.some.inj (Option.some.inj h); exact ⟨hβ, equateA_fc id rs g β hβ a b a1 b1 hA hB h1 h2 k1⟩), fun h => (by cases h)⟩
        rw [if_neg k1]
        by_cases k2 : hd b1 < 0 ∧ (0 ≤ hd a1 ∨ hd b1 < hd a1)
        · rw [if_pos k2]
          unfold bindM
          by_cases k3 : 0 ≤ hd a1
          · rw [if_pos k3]
            cases hq : occM β (hd b1) g a1 (List.replicate 48 false) with
            | none => exact ⟨fun _ h => (by cases h), fun h => (by cases h)⟩
            | some q =>
              obtain ⟨o, s⟩ := q
              cases o with
              | true => exact ⟨fun _ h => (by cases h), fun _ => equateS3_fc id rs g β hβ a b a1 b1 hA hB h1 h2 k1 k2 k3 s hq⟩
              | false => exact ⟨fun β' h => (by obtain rfl := Option.some.inj (Option.some.inj h); exact ⟨hβ.set _ hA1, equateS2_fc id rs g β hβ a b a1 b1 hA hB h1 h2 k1 k2 k3 s hq⟩), fun h => (by cases h)⟩
          · rw [if_neg k3]
            exact ⟨fun β' h => (by obtain rfl := Option.some.inj (Option.some.inj h); exact ⟨hβ.set _ hA1, equateS1_fc id rs g β hβ a b a1 b1 hA hB h1 h2 k1 k2 (by omega)⟩), fun h => (by cases h)⟩
        rw [if_neg k2]
        by_cases k4 : hd a1 < 0
        · rw [if_pos k4]
          unfold bindM
          by_cases k3 : 0 ≤ hd b1
          · rw [if_pos k3]
            cases hq : occM β (hd a1) g b1 (List.replicate 48 false) with
            | none => exact ⟨fun _ h => (by cases h), fun h => (by cases h)⟩
            | some q =>
              obtain ⟨o, s⟩ := q
              cases o with
              | true => exact ⟨fun _ h => (by cases h), fun _ => equateC3_fc id rs g β hβ a b a1 b1 hA hB h1 h2 k1 k2 k4 k3 s hq⟩
              | false => exact ⟨fun β' h => (by obtain rfl := Option.some.inj (Option.some.inj h); exact ⟨hβ.set _ hB1, equateC2_fc id rs g β hβ a b a1 b1 hA hB h1 h2 k1 k2 k4 k3 s hq⟩), fun h => (by cases h)⟩
          · rw [if_neg k3]
            exact ⟨fun β' h => (by obtain rfl := Option.some.inj (Option.some.inj h); exact ⟨hβ.set _ hB1, equateC1_fc id rs g β hβ a b a1 b1 hA hB h1 h2 k1 k2 k4 (by omega)⟩), fun h => (by cases h)⟩
        rw [if_neg k4]
        have k5 : 0 ≤ hd b1 := by omega
        by_cases k6 : hd a1 = hd b1
        · rw [if_neg (by simpa using k6)]
          exact ⟨fun β' h => ⟨eqL_ok ih (fun p hp => pairsX_ok hA1 hB1 k6 p hp) hβ h, equateL_fc id rs g β hβ a b a1 b1 hA hB h1 h2 _ ih β' h k6 (by omega)⟩, fun h => equateM_fc id rs g β hβ a b a1 b1 hA hB h1 h2 _ ih h k6 (by omega)⟩
        · rw [if_pos k6]
          exact ⟨fun _ h => (by cases h), fun _ => equateN_fc id rs g β hβ a b a1 b1 hA hB h1 h2 (by omega) k5 k6⟩
end Go.Proofs.Ytlcdahaihlflaaa
