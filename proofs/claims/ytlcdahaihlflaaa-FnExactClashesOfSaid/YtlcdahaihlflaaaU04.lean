/-
  Unification: two terms are made equal, or there is a clash.
-/
import Derived.Test.YtlcdahaihlflaaaU03
import Derived.Test.YtlcdahaihlflaaaLgK12
namespace Go.Proofs.Ytlcdahaihlflaaa
open Go Go.Lg
set_option linter.unusedSimpArgs false
set_option linter.unusedVariables false
set_option maxHeartbeats 4000000
attribute [local irreducible] SW runL runQ runG runQG FC Ret1 bD
abbrev Bds := List (List Int)
def hd (t : List Int) : Int := t.getD 0 default
def pairsX (rs a b : List Int) : List (List Int × List Int) := (List.range (argsS rs (phiL a) 0).length).map fun k => (subX rs a ((argsS rs (phiL a) 0).getD k default), subX rs b ((argsS rs (phiL b) 0).getD k default))
def eqL (rec : Bds → List Int → List Int → Option (Option Bds)) : List (List Int × List Int) → Bds → Option (Option Bds)
  | [], β => some (some β)
  | p :: r, β => match rec β p.1 p.2 with
    | none => none
    | some none => some none
    | some (some β') => eqL rec r β'
/-- a variable is bound -/
def bindM (g : Nat) (β : Bds) (x y : List Int) : Option (Option Bds) :=
  if 0 ≤ hd y then match occM β (hd x) g y (List.replicate 48 false) with
    | none => none
    | some (true, _) => some none
    | some (false, _) => some (some (β.set (vIx (hd x)) y))
  else some (some (β.set (vIx (hd x)) y))
def eqB (rs : List Int) (g : Nat) (rec : Bds → List Int → List Int → Option (Option Bds)) (β : Bds) (a b : List Int) : Option (Option Bds) :=
  if hd a = hd b ∧ hd a < 0 then some (some β)
  else if hd b < 0 ∧ (0 ≤ hd a ∨ hd b < hd a) then bindM g β b a
  else if hd a < 0 then bindM g β a b
  else if hd a ≠ hd b then some none
  else eqL rec (pairsX rs a b) β
def eqM (rs : List Int) (g : Nat) : Nat → Bds → List Int → List Int → Option (Option Bds)
  | 0, _, _, _ => none
  | f + 1, β, a, b => match rootM β g a, rootM β g b with
    | some a1, some b1 => eqB rs g (eqM rs g f) β a1 b1
    | _, _ => none
theorem rootM_ok {rs : List Int} {β : Bds} (hβ : BOK rs β) : ∀ {f : Nat} {t r : List Int}, rootM β f t = some r → XT rs t → XT rs r
  | 0, _, _, h, _ => by cases h
  | f + 1, t, r, h, hT => by
    unfold rootM at h
    split at h
    · rename_i hc
      exact rootM_ok hβ h (hβ.get hc.2)
    · obtain rfl := Option.some.inj h; exact hT
theorem BOK.set {rs : List Int} {β : Bds} (h : BOK rs β) (i : Nat) {t : List Int} (ht : XT rs t) : BOK rs (β.set i t) := ⟨by rw [List.length_set]; exact h.1, fun x hx => by
  rcases List.mem_or_eq_of_mem_set hx with hx | rfl
  · exact h.2 x hx
  · exact .inr ht⟩
theorem uC_set (rs : List Int) (β : Bds) (i : Nat) {y : List Int} (hy : y ≠ []) : (D.sl .any (rs.map (.int .i64)) :: β.map bD).set (1 + i) (.sl .any (y.map (.int .i64))) = D.sl .any (rs.map (.int .i64)) :: (β.set i y).map bD := by
  rw [Nat.add_comm, List.set_cons_succ, List.map_set, bD_some hy]
theorem uC_set' (rs : List Int) (β : Bds) (n : Int) {y : List Int} (hy : y ≠ []) : (D.sl .any (rs.map (.int .i64)) :: β.map bD).set (1 + (-1 - n).toNat) (.sl .any (y.map (.int .i64))) = D.sl .any (rs.map (.int .i64)) :: (β.set (vIx n) y).map bD := uC_set rs β _ hy
def kp88 : List (Nat × List Nat) := [(0, [0, 1, 2]), (1, [0, 1, 2, 27]), (2, [0, 1, 2, 46]), (3, [0, 1, 2]), (4, [0, 1, 2, 52]), (5, [0, 1, 2, 66]), (6, [0, 1, 2]), (7, []), (8, [0, 1, 2, 84]), (9, [0, 1, 2]), (10, [0, 1, 2, 6, 7]), (11, [0, 1, 2, 6, 7, 100, 101]), (12, [0, 1, 2, 6, 7, 100, 101, 102]), (13, [0, 1, 2, 6, 7, 8, 100, 101]), (14, [0, 1, 2, 6, 7, 100, 101]), (15, [0, 1, 2, 6, 7, 100, 101])]
attribute [go_sem] kp88
theorem equateA_fc (id : Nat) (rs : List Int) (g : Nat) (β : Bds) (hβ : BOK rs β) (a b a1 b1 : List Int) (hA : XT rs a) (hB : XT rs b) (h1 : rootM β g a = some a1) (h2 : rootM β g b = some b1) (hv : hd a1 = hd b1 ∧ hd a1 < 0) : FC S 88 [] [(id + 1000, uC rs β)] [] [.box (id + 1000) 0, .sl .any (a.map (.int .i64)), .sl .any (b.map (.int .i64))] (.tup []) [(id + 1000, uC rs β)] [] := by
  have c1 := root_fc (id + 1000) rs β hβ g a a1 h1 hA
  have c2 := root_fc (id + 1000) rs β hβ g b b1 h2 hB
  have hA1 := rootM_ok hβ h1 hA
  have hB1 := rootM_ok hβ h2 hB
  have hla := hA1.len
  have hlb := hB1.len
  unfold uC at *
  unfold hd at hv
  refine fc_body Try.func88 rfl (by kernel_rfl) (by simp [Try.f88]) fun B => ?_
  simp only [Try.ntmps88, enumD, List.map_nil, List.map_cons, List.length_map, Nat.zero_add, Nat.reduceAdd]
  repeat' first
    | ((exfalso; omega))
    | exact Bool.noConfusion h
    | refine sw_seq ?_
    | refine sw_block ?_
    | refine sw_skip ?_
    | refine sw_inBlock ?_
    | refine sw_go 0 kp88 fun K hK => ?_
    | refine sw_goT 0 kp88 9 (id := 7) (by kernel_rfl) fun K hK => ?_
    | refine fun (K : List Oper → LS → Prop) (hK : KOk S 0 _ _ _ K) => ?_
    | refine sw_goD kp88 (by kernel_rfl) fun K hK => ?_
    | ((first | refine runL_go ?_ | refine runQ_go ?_); simp (disch := (refine Om.mk ?_; omega)) only [go_sem])
    | (refine hK.nil ?_; clear hK K; simp only [go_sem])
    | (refine runG_fork rfl rfl rfl rfl rfl (fun h => ?_) (fun h => ?_) <;> (try simp (disch := (refine Om.mk ?_; omega)) only [go_sem] at h))
    | (refine runQG_fork rfl rfl rfl rfl rfl (fun h => ?_) (fun h => ?_) <;> (try simp (disch := (refine Om.mk ?_; omega)) only [go_sem] at h))
    | (refine hK.skip rfl (by simp only [dstOk, Nat.reduceLT]) ?_)
    | (refine sw_cond rfl (fun h => ?_) (fun h => ?_) <;> (try simp (disch := (refine Om.mk ?_; omega)) only [go_sem] at h))
    | (refine sw_exit rfl ?_)
    | (refine sw_loopEnd ?_)
    | ((first | refine sw_ret (ret0 ?_) | refine sw_ret ?_); simp (disch := (refine Om.mk ?_; omega)) only [go_sem, Try.results88])
    | refine hK.call rfl rfl rfl (c1) ⟨(by simp [LS.getBox, Lg.look]), rfl, rfl, (by simp only [dstOk, Nat.reduceLT])⟩ ?_
    | refine hK.call rfl rfl rfl (c2) ⟨(by simp [LS.getBox, Lg.look]), rfl, rfl, (by simp only [dstOk, Nat.reduceLT])⟩ ?_
    | (refine hK.fork rfl rfl rfl (fun h => ?_) (fun h => ?_) <;> (try simp (disch := (refine Om.mk ?_; omega)) only [go_sem] at h))
    | (with_reducible refine And.intro (by first | omega | (simp only [List.length_append, List.length_take, List.length_drop, List.length_cons, List.length_nil, List.length_map]; omega)) ?_)
    | ((with_reducible refine And.intro ?_ ?_); · first | (intro x hx; subst hx; rfl) | exact upR_mem fun _ _ => rfl | exact mapR_mem fun _ _ => rfl | (intro x; refine And.intro ?_ ?_ <;> (intros; subst_vars; rfl)))
    | fail
  all_goals first | exact hset | exact ⟨rfl, hset⟩ | trace_state
theorem equateC1_fc (id : Nat) (rs : List Int) (g : Nat) (β : Bds) (hβ : BOK rs β) (a b a1 b1 : List Int) (hA : XT rs a) (hB : XT rs b) (h1 : rootM β g a = some a1) (h2 : rootM β g b = some b1) (hn1 : ¬ (hd a1 = hd b1 ∧ hd a1 < 0)) (hw : ¬ (hd b1 < 0 ∧ (0 ≤ hd a1 ∨ hd b1 < hd a1))) (hv : hd a1 < 0) (hy : hd b1 < 0) : FC S 88 [] [(id + 1000, uC rs β)] [] [.box (id + 1000) 0, .sl .any (a.map (.int .i64)), .sl .any (b.map (.int .i64))] (.tup []) [(id + 1000, uC rs (β.set (vIx (hd a1)) b1))] [] := by
  have c1 := root_fc (id + 1000) rs β hβ g a a1 h1 hA
  have c2 := root_fc (id + 1000) rs β hβ g b b1 h2 hB
  have hA1 := rootM_ok hβ h1 hA
  have hB1 := rootM_ok hβ h2 hB
  have hla := hA1.len
  have hlb := hB1.len
  have hga := hA1.get (a := 0) (by omega)
  have hgb := hB1.get (a := 0) (by omega)
  have hlβ := hβ.1
  have hset := uC_set' rs β (hd a1) hB1.ne
  unfold uC at *
  unfold hd at *
  refine fc_body Try.func88 rfl (by kernel_rfl) (by simp [Try.f88]) fun B => ?_
  simp only [Try.ntmps88, enumD, List.map_nil, List.map_cons, List.length_map, Nat.zero_add, Nat.reduceAdd]
  repeat' first
    | ((exfalso; omega))
    | exact Bool.noConfusion h
    | refine sw_seq ?_
    | refine sw_block ?_
    | refine sw_skip ?_
    | refine sw_inBlock ?_
    | refine sw_go 0 kp88 fun K hK => ?_
    | refine sw_goT 0 kp88 9 (id := 7) (by kernel_rfl) fun K hK => ?_
    | refine fun (K : List Oper → LS → Prop) (hK : KOk S 0 _ _ _ K) => ?_
    | refine sw_goD kp88 (by kernel_rfl) fun K hK => ?_
    | ((first | refine runL_go ?_ | refine runQ_go ?_); simp (disch := (refine Om.mk ?_; omega)) only [go_sem])
    | (refine hK.nil ?_; clear hK K; simp only [go_sem])
    | (refine runG_fork rfl rfl rfl rfl rfl (fun h => ?_) (fun h => ?_) <;> (try simp (disch := (refine Om.mk ?_; omega)) only [go_sem] at h))
    | (refine runQG_fork rfl rfl rfl rfl rfl (fun h => ?_) (fun h => ?_) <;> (try simp (disch := (refine Om.mk ?_; omega)) only [go_sem] at h))
    | (refine hK.skip rfl (by simp only [dstOk, Nat.reduceLT]) ?_)
    | (refine sw_cond rfl (fun h => ?_) (fun h => ?_) <;> (try simp (disch := (refine Om.mk ?_; omega)) only [go_sem] at h))
    | (refine sw_exit rfl ?_)
    | (refine sw_loopEnd ?_)
    | ((first | refine sw_ret (ret0 ?_) | refine sw_ret ?_); simp (disch := (refine Om.mk ?_; omega)) only [go_sem, Try.results88])
    | refine hK.call rfl rfl rfl (c1) ⟨(by simp [LS.getBox, Lg.look]), rfl, rfl, (by simp only [dstOk, Nat.reduceLT])⟩ ?_
    | refine hK.call rfl rfl rfl (c2) ⟨(by simp [LS.getBox, Lg.look]), rfl, rfl, (by simp only [dstOk, Nat.reduceLT])⟩ ?_
    | (refine hK.fork rfl rfl rfl (fun h => ?_) (fun h => ?_) <;> (try simp (disch := (refine Om.mk ?_; omega)) only [go_sem] at h))
    | (with_reducible refine And.intro (by first | omega | (simp only [List.length_append, List.length_take, List.length_drop, List.length_cons, List.length_nil, List.length_map]; omega)) ?_)
    | ((with_reducible refine And.intro ?_ ?_); · first | (intro x hx; subst hx; rfl) | exact upR_mem fun _ _ => rfl | exact mapR_mem fun _ _ => rfl | (intro x; refine And.intro ?_ ?_ <;> (intros; subst_vars; rfl)))
    | fail
  all_goals first | exact hset | exact ⟨rfl, hset⟩ | trace_state
theorem equateC2_fc (id : Nat) (rs : List Int) (g : Nat) (β : Bds) (hβ : BOK rs β) (a b a1 b1 : List Int) (hA : XT rs a) (hB : XT rs b) (h1 : rootM β g a = some a1) (h2 : rootM β g b = some b1) (hn1 : ¬ (hd a1 = hd b1 ∧ hd a1 < 0)) (hw : ¬ (hd b1 < 0 ∧ (0 ≤ hd a1 ∨ hd b1 < hd a1))) (hv : hd a1 < 0) (hy : 0 ≤ hd b1) (s : List Bool) (hq : occM β (hd a1) g b1 (List.replicate 48 false) = some (false, s)) : FC S 88 [] [(id + 1000, uC rs β)] [] [.box (id + 1000) 0, .sl .any (a.map (.int .i64)), .sl .any (b.map (.int .i64))] (.tup []) [(id + 1000, uC rs (β.set (vIx (hd a1)) b1))] [] := by
  have c1 := root_fc (id + 1000) rs β hβ g a a1 h1 hA
  have c2 := root_fc (id + 1000) rs β hβ g b b1 h2 hB
  have hA1 := rootM_ok hβ h1 hA
  have hB1 := rootM_ok hβ h2 hB
  have hla := hA1.len
  have hlb := hB1.len
  have hga := hA1.get (a := 0) (by omega)
  have hgb := hB1.get (a := 0) (by omega)
  have hlβ := hβ.1
  have hset := uC_set' rs β (hd a1) hB1.ne
  have cO := occurs_fc id rs β hβ (hd a1) g b1 (List.replicate 48 false) _ hq hB1 (by simp)
  unfold uC at *
  unfold hd at *
  refine fc_body Try.func88 rfl (by kernel_rfl) (by simp [Try.f88]) fun B => ?_
  simp only [Try.ntmps88, enumD, List.map_nil, List.map_cons, List.length_map, Nat.zero_add, Nat.reduceAdd]
  repeat' first
    | ((exfalso; omega))
    | ((refine hK.callB rfl rfl rfl (cO) ⟨⟨by simp only [Nat.reduceLT], (by simp [-List.map_set, LS.getBox, Lg.look]), (by simp [-List.map_set, Lg.look]), (by simp), (by simp)⟩, ⟨by simp [-List.map_set, D.ids, D.idsL, idsL_bool, idsL_bD], by simp [-List.map_set, D.ids, D.idsL, idsL_bool, idsL_bD], by simp [-List.map_set, D.tks, D.tksL, tksU_ints, tksL_bool, tksL_bD], by simp [-List.map_set, D.tks, D.tksL, tksU_ints, tksL_bool, tksL_bD], by simp⟩, (by simp [-List.map_set, LS.clean, D.puOk, D.pu, D.pu1, D.tks, D.tksL, tksU_ints, tksL_bool, tksL_bD, puOk_intsU, puOk_bool, puOk_bD, inTok])⟩ ?_; simp (disch := (refine Om.mk ?_; omega)) only [go_sem]))
    | exact Bool.noConfusion h
    | refine sw_seq ?_
    | refine sw_block ?_
    | refine sw_skip ?_
    | refine sw_inBlock ?_
    | refine sw_go 0 kp88 fun K hK => ?_
    | refine sw_goT 0 kp88 9 (id := 7) (by kernel_rfl) fun K hK => ?_
    | refine fun (K : List Oper → LS → Prop) (hK : KOk S 0 _ _ _ K) => ?_
    | refine sw_goD kp88 (by kernel_rfl) fun K hK => ?_
    | ((first | refine runL_go ?_ | refine runQ_go ?_); simp (disch := (refine Om.mk ?_; omega)) only [go_sem])
    | (refine hK.nil ?_; clear hK K; simp only [go_sem])
    | (refine runG_fork rfl rfl rfl rfl rfl (fun h => ?_) (fun h => ?_) <;> (try simp (disch := (refine Om.mk ?_; omega)) only [go_sem] at h))
    | (refine runQG_fork rfl rfl rfl rfl rfl (fun h => ?_) (fun h => ?_) <;> (try simp (disch := (refine Om.mk ?_; omega)) only [go_sem] at h))
    | (refine hK.skip rfl (by simp only [dstOk, Nat.reduceLT]) ?_)
    | (refine sw_cond rfl (fun h => ?_) (fun h => ?_) <;> (try simp (disch := (refine Om.mk ?_; omega)) only [go_sem] at h))
    | (refine sw_exit rfl ?_)
    | (refine sw_loopEnd ?_)
    | ((first | refine sw_ret (ret0 ?_) | refine sw_ret ?_); simp (disch := (refine Om.mk ?_; omega)) only [go_sem, Try.results88])
    | refine hK.call rfl rfl rfl (c1) ⟨(by simp [LS.getBox, Lg.look]), rfl, rfl, (by simp only [dstOk, Nat.reduceLT])⟩ ?_
    | refine hK.call rfl rfl rfl (c2) ⟨(by simp [LS.getBox, Lg.look]), rfl, rfl, (by simp only [dstOk, Nat.reduceLT])⟩ ?_
    | (refine hK.fork rfl rfl rfl (fun h => ?_) (fun h => ?_) <;> (try simp (disch := (refine Om.mk ?_; omega)) only [go_sem] at h))
    | (with_reducible refine And.intro (by first | omega | (simp only [List.length_append, List.length_take, List.length_drop, List.length_cons, List.length_nil, List.length_map]; omega)) ?_)
    | ((with_reducible refine And.intro ?_ ?_); · first | (intro x hx; subst hx; rfl) | exact upR_mem fun _ _ => rfl | exact mapR_mem fun _ _ => rfl | (intro x; refine And.intro ?_ ?_ <;> (intros; subst_vars; rfl)))
    | fail
  all_goals first | exact hset | exact ⟨rfl, hset⟩ | trace_state
theorem equateC3_fc (id : Nat) (rs : List Int) (g : Nat) (β : Bds) (hβ : BOK rs β) (a b a1 b1 : List Int) (hA : XT rs a) (hB : XT rs b) (h1 : rootM β g a = some a1) (h2 : rootM β g b = some b1) (hn1 : ¬ (hd a1 = hd b1 ∧ hd a1 < 0)) (hw : ¬ (hd b1 < 0 ∧ (0 ≤ hd a1 ∨ hd b1 < hd a1))) (hv : hd a1 < 0) (hy : 0 ≤ hd b1) (s : List Bool) (hq : occM β (hd a1) g b1 (List.replicate 48 false) = some (true, s)) : FCX S 88 [] [(id + 1000, uC rs β)] [] [.box (id + 1000) 0, .sl .any (a.map (.int .i64)), .sl .any (b.map (.int .i64))] (chainE 125) := by
  have c1 := root_fc (id + 1000) rs β hβ g a a1 h1 hA
  have c2 := root_fc (id + 1000) rs β hβ g b b1 h2 hB
  have hA1 := rootM_ok hβ h1 hA
  have hB1 := rootM_ok hβ h2 hB
  have hla := hA1.len
  have hlb := hB1.len
  have hga := hA1.get (a := 0) (by omega)
  have hgb := hB1.get (a := 0) (by omega)
  have hlβ := hβ.1
  have hset := uC_set' rs β (hd a1) hB1.ne
  have cO := occurs_fc id rs β hβ (hd a1) g b1 (List.replicate 48 false) _ hq hB1 (by simp)
  unfold uC at *
  unfold hd at *
  refine fcx_body Try.func88 rfl (by kernel_rfl) (by simp [Try.f88]) fun B hp hp1 => ?_
  simp only [Try.ntmps88, enumD, List.map_nil, List.map_cons, List.length_map, Nat.zero_add, Nat.reduceAdd]
  repeat' first
    | ((exfalso; omega))
    | ((refine hK.callB rfl rfl rfl (cO) ⟨⟨by simp only [Nat.reduceLT], (by simp [-List.map_set, LS.getBox, Lg.look]), (by simp [-List.map_set, Lg.look]), (by simp), (by simp)⟩, ⟨by simp [-List.map_set, D.ids, D.idsL, idsL_bool, idsL_bD], by simp [-List.map_set, D.ids, D.idsL, idsL_bool, idsL_bD], by simp [-List.map_set, D.tks, D.tksL, tksU_ints, tksL_bool, tksL_bD], by simp [-List.map_set, D.tks, D.tksL, tksU_ints, tksL_bool, tksL_bD], by simp⟩, (by simp [-List.map_set, LS.clean, D.puOk, D.pu, D.pu1, D.tks, D.tksL, tksU_ints, tksL_bool, tksL_bD, puOk_intsU, puOk_bool, puOk_bD, inTok])⟩ ?_; simp (disch := (refine Om.mk ?_; omega)) only [go_sem]))
    | ((refine sw_goP 0 1 (id := 6) fun K hK => ?_))
    | exact Bool.noConfusion h
    | refine sw_seq ?_
    | refine sw_block ?_
    | refine sw_skip ?_
    | refine sw_inBlock ?_
    | refine sw_go 0 kp88 fun K hK => ?_
    | refine sw_goT 0 kp88 9 (id := 7) (by kernel_rfl) fun K hK => ?_
    | refine fun (K : List Oper → LS → Prop) (hK : KOk S 0 _ _ _ K) => ?_
    | refine sw_goD kp88 (by kernel_rfl) fun K hK => ?_
    | ((first | refine runL_go ?_ | refine runQ_go ?_); simp (disch := (refine Om.mk ?_; omega)) only [go_sem])
    | (refine hK.nil ?_; clear hK K; simp only [go_sem])
    | (refine runG_fork rfl rfl rfl rfl rfl (fun h => ?_) (fun h => ?_) <;> (try simp (disch := (refine Om.mk ?_; omega)) only [go_sem] at h))
    | (refine runQG_fork rfl rfl rfl rfl rfl (fun h => ?_) (fun h => ?_) <;> (try simp (disch := (refine Om.mk ?_; omega)) only [go_sem] at h))
    | (refine hK.skip rfl (by simp only [dstOk, Nat.reduceLT]) ?_)
    | (refine sw_cond rfl (fun h => ?_) (fun h => ?_) <;> (try simp (disch := (refine Om.mk ?_; omega)) only [go_sem] at h))
    | (refine sw_exit rfl ?_)
    | (refine sw_loopEnd ?_)
    | ((first | refine sw_ret (ret0 ?_) | refine sw_ret ?_); simp (disch := (refine Om.mk ?_; omega)) only [go_sem, Try.results88])
    | refine hK.call rfl rfl rfl (c1) ⟨(by simp [LS.getBox, Lg.look]), rfl, rfl, (by simp only [dstOk, Nat.reduceLT])⟩ ?_
    | refine hK.call rfl rfl rfl (c2) ⟨(by simp [LS.getBox, Lg.look]), rfl, rfl, (by simp only [dstOk, Nat.reduceLT])⟩ ?_
    | (refine hK.fork rfl rfl rfl (fun h => ?_) (fun h => ?_) <;> (try simp (disch := (refine Om.mk ?_; omega)) only [go_sem] at h))
    | (with_reducible refine And.intro (by first | omega | (simp only [List.length_append, List.length_take, List.length_drop, List.length_cons, List.length_nil, List.length_map]; omega)) ?_)
    | ((with_reducible refine And.intro ?_ ?_); · first | (intro x hx; subst hx; rfl) | exact upR_mem fun _ _ => rfl | exact mapR_mem fun _ _ => rfl | (intro x; refine And.intro ?_ ?_ <;> (intros; subst_vars; rfl)))
    | fail
  all_goals try simp only [List.drop_succ_cons, List.drop_zero]
  all_goals refine LopsP.cons (LopsW.mkIface (fun v w => run_makeInterface w _ v (by kernel_rfl)) rfl rfl rfl (by simp only [Nat.reduceLT]) (LopsW.nil ?_))
  all_goals exact LopsP.panic rfl hp
theorem equateS1_fc (id : Nat) (rs : List Int) (g : Nat) (β : Bds) (hβ : BOK rs β) (a b a1 b1 : List Int) (hA : XT rs a) (hB : XT rs b) (h1 : rootM β g a = some a1) (h2 : rootM β g b = some b1) (hn1 : ¬ (hd a1 = hd b1 ∧ hd a1 < 0)) (hw : hd b1 < 0 ∧ (0 ≤ hd a1 ∨ hd b1 < hd a1)) (hy : hd a1 < 0) : FC S 88 [] [(id + 1000, uC rs β)] [] [.box (id + 1000) 0, .sl .any (a.map (.int .i64)), .sl .any (b.map (.int .i64))] (.tup []) [(id + 1000, uC rs (β.set (vIx (hd b1)) a1))] [] := by
  have c1 := root_fc (id + 1000) rs β hβ g a a1 h1 hA
  have c2 := root_fc (id + 1000) rs β hβ g b b1 h2 hB
  have hA1 := rootM_ok hβ h1 hA
  have hB1 := rootM_ok hβ h2 hB
  have hla := hA1.len
  have hlb := hB1.len
  have hga := hA1.get (a := 0) (by omega)
  have hgb := hB1.get (a := 0) (by omega)
  have hlβ := hβ.1
  have hset := uC_set' rs β (hd b1) hA1.ne
  unfold uC at *
  unfold hd at *
  refine fc_body Try.func88 rfl (by kernel_rfl) (by simp [Try.f88]) fun B => ?_
  simp only [Try.ntmps88, enumD, List.map_nil, List.map_cons, List.length_map, Nat.zero_add, Nat.reduceAdd]
  repeat' first
    | ((exfalso; omega))
    | exact Bool.noConfusion h
    | refine sw_seq ?_
    | refine sw_block ?_
    | refine sw_skip ?_
    | refine sw_inBlock ?_
    | refine sw_go 0 kp88 fun K hK => ?_
    | refine sw_goT 0 kp88 9 (id := 7) (by kernel_rfl) fun K hK => ?_
    | refine fun (K : List Oper → LS → Prop) (hK : KOk S 0 _ _ _ K) => ?_
    | refine sw_goD kp88 (by kernel_rfl) fun K hK => ?_
    | ((first | refine runL_go ?_ | refine runQ_go ?_); simp (disch := (refine Om.mk ?_; omega)) only [go_sem])
    | (refine hK.nil ?_; clear hK K; simp only [go_sem])
    | (refine runG_fork rfl rfl rfl rfl rfl (fun h => ?_) (fun h => ?_) <;> (try simp (disch := (refine Om.mk ?_; omega)) only [go_sem] at h))
    | (refine runQG_fork rfl rfl rfl rfl rfl (fun h => ?_) (fun h => ?_) <;> (try simp (disch := (refine Om.mk ?_; omega)) only [go_sem] at h))
    | (refine hK.skip rfl (by simp only [dstOk, Nat.reduceLT]) ?_)
    | (refine sw_cond rfl (fun h => ?_) (fun h => ?_) <;> (try simp (disch := (refine Om.mk ?_; omega)) only [go_sem] at h))
    | (refine sw_exit rfl ?_)
    | (refine sw_loopEnd ?_)
    | ((first | refine sw_ret (ret0 ?_) | refine sw_ret ?_); simp (disch := (refine Om.mk ?_; omega)) only [go_sem, Try.results88])
    | refine hK.call rfl rfl rfl (c1) ⟨(by simp [LS.getBox, Lg.look]), rfl, rfl, (by simp only [dstOk, Nat.reduceLT])⟩ ?_
    | refine hK.call rfl rfl rfl (c2) ⟨(by simp [LS.getBox, Lg.look]), rfl, rfl, (by simp only [dstOk, Nat.reduceLT])⟩ ?_
    | (refine hK.fork rfl rfl rfl (fun h => ?_) (fun h => ?_) <;> (try simp (disch := (refine Om.mk ?_; omega)) only [go_sem] at h))
    | (with_reducible refine And.intro (by first | omega | (simp only [List.length_append, List.length_take, List.length_drop, List.length_cons, List.length_nil, List.length_map]; omega)) ?_)
    | ((with_reducible refine And.intro ?_ ?_); · first | (intro x hx; subst hx; rfl) | exact upR_mem fun _ _ => rfl | exact mapR_mem fun _ _ => rfl | (intro x; refine And.intro ?_ ?_ <;> (intros; subst_vars; rfl)))
    | fail
  all_goals first | exact hset | exact ⟨rfl, hset⟩ | trace_state
theorem equateS2_fc (id : Nat) (rs : List Int) (g : Nat) (β : Bds) (hβ : BOK rs β) (a b a1 b1 : List Int) (hA : XT rs a) (hB : XT rs b) (h1 : rootM β g a = some a1) (h2 : rootM β g b = some b1) (hn1 : ¬ (hd a1 = hd b1 ∧ hd a1 < 0)) (hw : hd b1 < 0 ∧ (0 ≤ hd a1 ∨ hd b1 < hd a1)) (hy : 0 ≤ hd a1) (s : List Bool) (hq : occM β (hd b1) g a1 (List.replicate 48 false) = some (false, s)) : FC S 88 [] [(id + 1000, uC rs β)] [] [.box (id + 1000) 0, .sl .any (a.map (.int .i64)), .sl .any (b.map (.int .i64))] (.tup []) [(id + 1000, uC rs (β.set (vIx (hd b1)) a1))] [] := by
  have c1 := root_fc (id + 1000) rs β hβ g a a1 h1 hA
  have c2 := root_fc (id + 1000) rs β hβ g b b1 h2 hB
  have hA1 := rootM_ok hβ h1 hA
  have hB1 := rootM_ok hβ h2 hB
  have hla := hA1.len
  have hlb := hB1.len
  have hga := hA1.get (a := 0) (by omega)
  have hgb := hB1.get (a := 0) (by omega)
  have hlβ := hβ.1
  have hset := uC_set' rs β (hd b1) hA1.ne
  have cO := occurs_fc id rs β hβ (hd b1) g a1 (List.replicate 48 false) _ hq hA1 (by simp)
  unfold uC at *
  unfold hd at *
  refine fc_body Try.func88 rfl (by kernel_rfl) (by simp [Try.f88]) fun B => ?_
  simp only [Try.ntmps88, enumD, List.map_nil, List.map_cons, List.length_map, Nat.zero_add, Nat.reduceAdd]
  repeat' first
    | ((exfalso; omega))
    | ((refine hK.callB rfl rfl rfl (cO) ⟨⟨by simp only [Nat.reduceLT], (by simp [-List.map_set, LS.getBox, Lg.look]), (by simp [-List.map_set, Lg.look]), (by simp), (by simp)⟩, ⟨by simp [-List.map_set, D.ids, D.idsL, idsL_bool, idsL_bD], by simp [-List.map_set, D.ids, D.idsL, idsL_bool, idsL_bD], by simp [-List.map_set, D.tks, D.tksL, tksU_ints, tksL_bool, tksL_bD], by simp [-List.map_set, D.tks, D.tksL, tksU_ints, tksL_bool, tksL_bD], by simp⟩, (by simp [-List.map_set, LS.clean, D.puOk, D.pu, D.pu1, D.tks, D.tksL, tksU_ints, tksL_bool, tksL_bD, puOk_intsU, puOk_bool, puOk_bD, inTok])⟩ ?_; simp (disch := (refine Om.mk ?_; omega)) only [go_sem]))
    | exact Bool.noConfusion h
    | refine sw_seq ?_
    | refine sw_block ?_
    | refine sw_skip ?_
    | refine sw_inBlock ?_
    | refine sw_go 0 kp88 fun K hK => ?_
    | refine sw_goT 0 kp88 9 (id := 7) (by kernel_rfl) fun K hK => ?_
    | refine fun (K : List Oper → LS → Prop) (hK : KOk S 0 _ _ _ K) => ?_
    | refine sw_goD kp88 (by kernel_rfl) fun K hK => ?_
    | ((first | refine runL_go ?_ | refine runQ_go ?_); simp (disch := (refine Om.mk ?_; omega)) only [go_sem])
    | (refine hK.nil ?_; clear hK K; simp only [go_sem])
    | (refine runG_fork rfl rfl rfl rfl rfl (fun h => ?_) (fun h => ?_) <;> (try simp (disch := (refine Om.mk ?_; omega)) only [go_sem] at h))
    | (refine runQG_fork rfl rfl rfl rfl rfl (fun h => ?_) (fun h => ?_) <;> (try simp (disch := (refine Om.mk ?_; omega)) only [go_sem] at h))
    | (refine hK.skip rfl (by simp only [dstOk, Nat.reduceLT]) ?_)
    | (refine sw_cond rfl (fun h => ?_) (fun h => ?_) <;> (try simp (disch := (refine Om.mk ?_; omega)) only [go_sem] at h))
    | (refine sw_exit rfl ?_)
    | (refine sw_loopEnd ?_)
    | ((first | refine sw_ret (ret0 ?_) | refine sw_ret ?_); simp (disch := (refine Om.mk ?_; omega)) only [go_sem, Try.results88])
    | refine hK.call rfl rfl rfl (c1) ⟨(by simp [LS.getBox, Lg.look]), rfl, rfl, (by simp only [dstOk, Nat.reduceLT])⟩ ?_
    | refine hK.call rfl rfl rfl (c2) ⟨(by simp [LS.getBox, Lg.look]), rfl, rfl, (by simp only [dstOk, Nat.reduceLT])⟩ ?_
    | (refine hK.fork rfl rfl rfl (fun h => ?_) (fun h => ?_) <;> (try simp (disch := (refine Om.mk ?_; omega)) only [go_sem] at h))
    | (with_reducible refine And.intro (by first | omega | (simp only [List.length_append, List.length_take, List.length_drop, List.length_cons, List.length_nil, List.length_map]; omega)) ?_)
    | ((with_reducible refine And.intro ?_ ?_); · first | (intro x hx; subst hx; rfl) | exact upR_mem fun _ _ => rfl | exact mapR_mem fun _ _ => rfl | (intro x; refine And.intro ?_ ?_ <;> (intros; subst_vars; rfl)))
    | fail
  all_goals first | exact hset | exact ⟨rfl, hset⟩ | trace_state
theorem equateS3_fc (id : Nat) (rs : List Int) (g : Nat) (β : Bds) (hβ : BOK rs β) (a b a1 b1 : List Int) (hA : XT rs a) (hB : XT rs b) (h1 : rootM β g a = some a1) (h2 : rootM β g b = some b1) (hn1 : ¬ (hd a1 = hd b1 ∧ hd a1 < 0)) (hw : hd b1 < 0 ∧ (0 ≤ hd a1 ∨ hd b1 < hd a1)) (hy : 0 ≤ hd a1) (s : List Bool) (hq : occM β (hd b1) g a1 (List.replicate 48 false) = some (true, s)) : FCX S 88 [] [(id + 1000, uC rs β)] [] [.box (id + 1000) 0, .sl .any (a.map (.int .i64)), .sl .any (b.map (.int .i64))] (chainE 125) := by
  have c1 := root_fc (id + 1000) rs β hβ g a a1 h1 hA
  have c2 := root_fc (id + 1000) rs β hβ g b b1 h2 hB
  have hA1 := rootM_ok hβ h1 hA
  have hB1 := rootM_ok hβ h2 hB
  have hla := hA1.len
  have hlb := hB1.len
  have hga := hA1.get (a := 0) (by omega)
  have hgb := hB1.get (a := 0) (by omega)
  have hlβ := hβ.1
  have hset := uC_set' rs β (hd b1) hA1.ne
  have cO := occurs_fc id rs β hβ (hd b1) g a1 (List.replicate 48 false) _ hq hA1 (by simp)
  unfold uC at *
  unfold hd at *
  refine fcx_body Try.func88 rfl (by kernel_rfl) (by simp [Try.f88]) fun B hp hp1 => ?_
  simp only [Try.ntmps88, enumD, List.map_nil, List.map_cons, List.length_map, Nat.zero_add, Nat.reduceAdd]
  repeat' first
    | ((exfalso; omega))
    | ((refine hK.callB rfl rfl rfl (cO) ⟨⟨by simp only [Nat.reduceLT], (by simp [-List.map_set, LS.getBox, Lg.look]), (by simp [-List.map_set, Lg.look]), (by simp), (by simp)⟩, ⟨by simp [-List.map_set, D.ids, D.idsL, idsL_bool, idsL_bD], by simp [-List.map_set, D.ids, D.idsL, idsL_bool, idsL_bD], by simp [-List.map_set, D.tks, D.tksL, tksU_ints, tksL_bool, tksL_bD], by simp [-List.map_set, D.tks, D.tksL, tksU_ints, tksL_bool, tksL_bD], by simp⟩, (by simp [-List.map_set, LS.clean, D.puOk, D.pu, D.pu1, D.tks, D.tksL, tksU_ints, tksL_bool, tksL_bD, puOk_intsU, puOk_bool, puOk_bD, inTok])⟩ ?_; simp (disch := (refine Om.mk ?_; omega)) only [go_sem]))
    | ((refine sw_goP 0 1 (id := 6) fun K hK => ?_))
    | exact Bool.noConfusion h
    | refine sw_seq ?_
    | refine sw_block ?_
    | refine sw_skip ?_
    | refine sw_inBlock ?_
    | refine sw_go 0 kp88 fun K hK => ?_
    | refine sw_goT 0 kp88 9 (id := 7) (by kernel_rfl) fun K hK => ?_
    | refine fun (K : List Oper → LS → Prop) (hK : KOk S 0 _ _ _ K) => ?_
    | refine sw_goD kp88 (by kernel_rfl) fun K hK => ?_
    | ((first | refine runL_go ?_ | refine runQ_go ?_); simp (disch := (refine Om.mk ?_; omega)) only [go_sem])
    | (refine hK.nil ?_; clear hK K; simp only [go_sem])
    | (refine runG_fork rfl rfl rfl rfl rfl (fun h => ?_) (fun h => ?_) <;> (try simp (disch := (refine Om.mk ?_; omega)) only [go_sem] at h))
    | (refine runQG_fork rfl rfl rfl rfl rfl (fun h => ?_) (fun h => ?_) <;> (try simp (disch := (refine Om.mk ?_; omega)) only [go_sem] at h))
    | (refine hK.skip rfl (by simp only [dstOk, Nat.reduceLT]) ?_)
    | (refine sw_cond rfl (fun h => ?_) (fun h => ?_) <;> (try simp (disch := (refine Om.mk ?_; omega)) only [go_sem] at h))
    | (refine sw_exit rfl ?_)
    | (refine sw_loopEnd ?_)
    | ((first | refine sw_ret (ret0 ?_) | refine sw_ret ?_); simp (disch := (refine Om.mk ?_; omega)) only [go_sem, Try.results88])
    | refine hK.call rfl rfl rfl (c1) ⟨(by simp [LS.getBox, Lg.look]), rfl, rfl, (by simp only [dstOk, Nat.reduceLT])⟩ ?_
    | refine hK.call rfl rfl rfl (c2) ⟨(by simp [LS.getBox, Lg.look]), rfl, rfl, (by simp only [dstOk, Nat.reduceLT])⟩ ?_
    | (refine hK.fork rfl rfl rfl (fun h => ?_) (fun h => ?_) <;> (try simp (disch := (refine Om.mk ?_; omega)) only [go_sem] at h))
    | (with_reducible refine And.intro (by first | omega | (simp only [List.length_append, List.length_take, List.length_drop, List.length_cons, List.length_nil, List.length_map]; omega)) ?_)
    | ((with_reducible refine And.intro ?_ ?_); · first | (intro x hx; subst hx; rfl) | exact upR_mem fun _ _ => rfl | exact mapR_mem fun _ _ => rfl | (intro x; refine And.intro ?_ ?_ <;> (intros; subst_vars; rfl)))
    | fail
  all_goals try simp only [List.drop_succ_cons, List.drop_zero]
  all_goals refine LopsP.cons (LopsW.mkIface (fun v w => run_makeInterface w _ v (by kernel_rfl)) rfl rfl rfl (by simp only [Nat.reduceLT]) (LopsW.nil ?_))
  all_goals exact LopsP.panic rfl hp
theorem equateN_fc (id : Nat) (rs : List Int) (g : Nat) (β : Bds) (hβ : BOK rs β) (a b a1 b1 : List Int) (hA : XT rs a) (hB : XT rs b) (h1 : rootM β g a = some a1) (h2 : rootM β g b = some b1) (hv : 0 ≤ hd a1) (hy : 0 ≤ hd b1) (hne : hd a1 ≠ hd b1) : FCX S 88 [] [(id + 1000, uC rs β)] [] [.box (id + 1000) 0, .sl .any (a.map (.int .i64)), .sl .any (b.map (.int .i64))] (chainE 125) := by
  have c1 := root_fc (id + 1000) rs β hβ g a a1 h1 hA
  have c2 := root_fc (id + 1000) rs β hβ g b b1 h2 hB
  have hA1 := rootM_ok hβ h1 hA
  have hB1 := rootM_ok hβ h2 hB
  have hla := hA1.len
  have hlb := hB1.len
  have hga := hA1.get (a := 0) (by omega)
  have hgb := hB1.get (a := 0) (by omega)
  have hlβ := hβ.1
  unfold uC at *
  unfold hd at *
  refine fcx_body Try.func88 rfl (by kernel_rfl) (by simp [Try.f88]) fun B hp hp1 => ?_
  simp only [Try.ntmps88, enumD, List.map_nil, List.map_cons, List.length_map, Nat.zero_add, Nat.reduceAdd]
  repeat' first
    | ((exfalso; omega))
    | ((refine sw_goP 0 1 (id := 9) fun K hK => ?_))
    | exact Bool.noConfusion h
    | refine sw_seq ?_
    | refine sw_block ?_
    | refine sw_skip ?_
    | refine sw_inBlock ?_
    | refine sw_go 0 kp88 fun K hK => ?_
    | refine sw_goT 0 kp88 9 (id := 7) (by kernel_rfl) fun K hK => ?_
    | refine fun (K : List Oper → LS → Prop) (hK : KOk S 0 _ _ _ K) => ?_
    | refine sw_goD kp88 (by kernel_rfl) fun K hK => ?_
    | ((first | refine runL_go ?_ | refine runQ_go ?_); simp (disch := (refine Om.mk ?_; omega)) only [go_sem])
    | (refine hK.nil ?_; clear hK K; simp only [go_sem])
    | (refine runG_fork rfl rfl rfl rfl rfl (fun h => ?_) (fun h => ?_) <;> (try simp (disch := (refine Om.mk ?_; omega)) only [go_sem] at h))
    | (refine runQG_fork rfl rfl rfl rfl rfl (fun h => ?_) (fun h => ?_) <;> (try simp (disch := (refine Om.mk ?_; omega)) only [go_sem] at h))
    | (refine hK.skip rfl (by simp only [dstOk, Nat.reduceLT]) ?_)
    | (refine sw_cond rfl (fun h => ?_) (fun h => ?_) <;> (try simp (disch := (refine Om.mk ?_; omega)) only [go_sem] at h))
    | (refine sw_exit rfl ?_)
    | (refine sw_loopEnd ?_)
    | ((first | refine sw_ret (ret0 ?_) | refine sw_ret ?_); simp (disch := (refine Om.mk ?_; omega)) only [go_sem, Try.results88])
    | refine hK.call rfl rfl rfl (c1) ⟨(by simp [LS.getBox, Lg.look]), rfl, rfl, (by simp only [dstOk, Nat.reduceLT])⟩ ?_
    | refine hK.call rfl rfl rfl (c2) ⟨(by simp [LS.getBox, Lg.look]), rfl, rfl, (by simp only [dstOk, Nat.reduceLT])⟩ ?_
    | (refine hK.fork rfl rfl rfl (fun h => ?_) (fun h => ?_) <;> (try simp (disch := (refine Om.mk ?_; omega)) only [go_sem] at h))
    | (with_reducible refine And.intro (by first | omega | (simp only [List.length_append, List.length_take, List.length_drop, List.length_cons, List.length_nil, List.length_map]; omega)) ?_)
    | ((with_reducible refine And.intro ?_ ?_); · first | (intro x hx; subst hx; rfl) | exact upR_mem fun _ _ => rfl | exact mapR_mem fun _ _ => rfl | (intro x; refine And.intro ?_ ?_ <;> (intros; subst_vars; rfl)))
    | fail
  all_goals try simp only [List.drop_succ_cons, List.drop_zero]
  all_goals refine LopsP.cons (LopsW.mkIface (fun v w => run_makeInterface w _ v (by kernel_rfl)) rfl rfl rfl (by simp only [Nat.reduceLT]) (LopsW.nil ?_))
  all_goals exact LopsP.panic rfl hp
end Go.Proofs.Ytlcdahaihlflaaa
