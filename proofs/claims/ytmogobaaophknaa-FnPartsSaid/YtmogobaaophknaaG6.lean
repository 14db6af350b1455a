/-
  U04, U05, A04p, A20p, A04, U08, one behind the other.
-/
import Derived.Test.YtmogobaaophknaaG5
import Derived.Test.YtmogobaaophknaaLgK12
import Derived.Test.YtmogobaaophknaaG3
import Derived.Test.YtmogobaaophknaaG0
section
namespace Go.Proofs.Ytmogobaaophknaa
open Go Go.Lg
set_option linter.unusedSimpArgs false
set_option linter.unusedVariables false
set_option maxHeartbeats 4000000
attribute [local irreducible] SW runL runQ runG runQG FC Ret1 bD
abbrev Bds := List (List Int)
def hd (t : List Int) : Int := t.getD 0 default
def pairsX (rs a b : List Int) : List (List Int × List Int) := (List.range (argsS rs (phiL a) 0).length).map fun k => (subX rs a ((argsS rs (phiL a) 0).getD k default), subX rs b ((argsS rs (phiL b) 0).getD k default))
def eqL (rec : Bds → List Int → List Int → Option (Option Bds)) : List (List Int × List Int) → Bds → Option (Option Bds)
 | [], β => some (some β)
 | p :: r, β => match rec β p.1 p.2 with
  | none => none
  | some none => some none
  | some (some β') => eqL rec r β'
def bindM (g : Nat) (β : Bds) (x y : List Int) : Option (Option Bds) :=
 if 0 ≤ hd y then match occM β (hd x) g y (List.replicate 48 false) with
  | none => none
  | some (true, _) => some none
  | some (false, _) => some (some (β.set (vIx (hd x)) y))
 else some (some (β.set (vIx (hd x)) y))
def eqB (rs : List Int) (g : Nat) (rec : Bds → List Int → List Int → Option (Option Bds)) (β : Bds) (a b : List Int) : Option (Option Bds) :=
 if hd a = hd b ∧ hd a < 0 then some (some β)
 else if hd b < 0 ∧ (0 ≤ hd a ∨ hd b < hd a) then bindM g β b a
 else if hd a < 0 then bindM g β a b
 else if hd a ≠ hd b then some none
 else eqL rec (pairsX rs a b) β
def eqM (rs : List Int) (g : Nat) : Nat → Bds → List Int → List Int → Option (Option Bds)
 | 0, _, _, _ => none
 | f + 1, β, a, b => match rootM β g a, rootM β g b with
  | some a1, some b1 => eqB rs g (eqM rs g f) β a1 b1
  | _, _ => none
theorem rootM_ok {rs : List Int} {β : Bds} (hβ : BOK rs β) : ∀ {f : Nat} {t r : List Int}, rootM β f t = some r → XT rs t → XT rs r
 | 0, _, _, h, _ => by cases h
 | f + 1, t, r, h, hT => by
  unfold rootM at h
  split at h
  ·rename_i hc
   exact rootM_ok hβ h (hβ.get hc.2)
  ·obtain rfl := Option.some.inj h; exact hT
theorem BOK.set {rs : List Int} {β : Bds} (h : BOK rs β) (i : Nat) {t : List Int} (ht : XT rs t) : BOK rs (β.set i t) := ⟨by rw [List.length_set]; exact h.1, fun x hx => by
 rcases List.mem_or_eq_of_mem_set hx with hx | rfl
 ·exact h.2 x hx
 ·exact .inr ht⟩
theorem uC_set (rs : List Int) (β : Bds) (i : Nat) {y : List Int} (hy : y ≠ []) : (D.sl .any (rs.map (.int .i64)) :: β.map bD).set (1 + i) (.sl .any (y.map (.int .i64))) = D.sl .any (rs.map (.int .i64)) :: (β.set i y).map bD := by
 rw [Nat.add_comm, List.set_cons_succ, List.map_set, bD_some hy]
theorem uC_set' (rs : List Int) (β : Bds) (n : Int) {y : List Int} (hy : y ≠ []) : (D.sl .any (rs.map (.int .i64)) :: β.map bD).set (1 + (-1 - n).toNat) (.sl .any (y.map (.int .i64))) = D.sl .any (rs.map (.int .i64)) :: (β.set (vIx n) y).map bD := uC_set rs β _ hy
def kp54 : List (Nat × List Nat) := [(0, [0, 1, 2]), (1, [0, 1, 2, 27]), (2, [0, 1, 2, 46]), (3, [0, 1, 2]), (4, [0, 1, 2, 52]), (5, [0, 1, 2, 66]), (6, [0, 1, 2]), (7, []), (8, [0, 1, 2, 84]), (9, [0, 1, 2]), (10, [0, 1, 2, 6, 7]), (11, [0, 1, 2, 6, 7, 100, 101]), (12, [0, 1, 2, 6, 7, 100, 101, 102]), (13, [0, 1, 2, 6, 7, 8, 100, 101]), (14, [0, 1, 2, 6, 7, 100, 101]), (15, [0, 1, 2, 6, 7, 100, 101])]
attribute [go_sem] kp54
theorem equateA_fc (id : Nat) (rs : List Int) (g : Nat) (β : Bds) (hβ : BOK rs β) (a b a1 b1 : List Int) (hA : XT rs a) (hB : XT rs b) (h1 : rootM β g a = some a1) (h2 : rootM β g b = some b1) (hv : hd a1 = hd b1 ∧ hd a1 < 0) : FC S 54 [] [(id + 1000, uC rs β)] [] [.box (id + 1000) 0, .sl .any (a.map (.int .i64)), .sl .any (b.map (.int .i64))] (.tup []) [(id + 1000, uC rs β)] [] := by
 have c1 := root_fc (id + 1000) rs β hβ g a a1 h1 hA
 have c2 := root_fc (id + 1000) rs β hβ g b b1 h2 hB
 have hA1 := rootM_ok hβ h1 hA
 have hB1 := rootM_ok hβ h2 hB
 have hla := hA1.len
 have hlb := hB1.len
 unfold uC at *
 unfold hd at hv
 refine fc_body Try.func54 rfl (by kernel_rfl) (by simp [Try.f54]) fun B => ?_
 simp only [Try.ntmps54, enumD, lst0, Nat.reduceAdd]
 repeat' first | ((exfalso; omega)) | refine sw_seq ?_ | refine sw_block ?_ | refine sw_inBlock ?_ | refine sw_skip ?_ | refine sw_go 0 kp54 fun K hK => ?_ | refine sw_goT 0 kp54 9 (id := 7) (by kernel_rfl) fun K hK => ?_ | refine fun (K : KT) (hK : KOk S 0 _ _ _ K) => ?_ | refine sw_goD kp54 (by kernel_rfl) fun K hK => ?_ | ((first | refine runL_go ?_ | refine runQ_go ?_ | refine sw_ret (ret0 ?_) | refine sw_ret ?_); simp (disch := (refine Om.mk ?_; omega)) only [go_sem, Try.results54]) | (refine hK.nil ?_; clear hK K; simp only [go_sem]) | ((first | refine runG_fork rfl rfl rfl rfl rfl ?_ ?_ | refine runQG_fork rfl rfl rfl rfl rfl ?_ ?_ | refine sw_cond rfl ?_ ?_) <;> intro h <;> try simp (disch := (refine Om.mk ?_; omega)) only [go_sem] at h) | refine hK.skp rfl rfl ?_ | refine sw_exit rfl ?_ | refine sw_loopEnd ?_ | refine hK.call rfl rfl rfl (c1) ⟨(by simp [LS.getBox, Lg.look]), rfl, rfl, (by simp only [dstOk, Nat.reduceLT])⟩ ?_ | refine hK.call rfl rfl rfl (c2) ⟨(by simp [LS.getBox, Lg.look]), rfl, rfl, (by simp only [dstOk, Nat.reduceLT])⟩ ?_ | (refine hK.fork rfl rfl rfl ?_ ?_ <;> intro h <;> try simp (disch := (refine Om.mk ?_; omega)) only [go_sem] at h) | (with_reducible refine And.intro (by first | omega | (simp only [lens]; omega)) ?_) | ((with_reducible refine And.intro ?_ ?_); · first | (intro x hx; subst hx; rfl) | (intro x; refine And.intro ?_ ?_ <;> (intros; subst_vars; rfl))) | fail
 all_goals first | exact hset | exact ⟨rfl, hset⟩ | trace_state
theorem equateC1_fc (id : Nat) (rs : List Int) (g : Nat) (β : Bds) (hβ : BOK rs β) (a b a1 b1 : List Int) (hA : XT rs a) (hB : XT rs b) (h1 : rootM β g a = some a1) (h2 : rootM β g b = some b1) (hn1 : ¬ (hd a1 = hd b1 ∧ hd a1 < 0)) (hw : ¬ (hd b1 < 0 ∧ (0 ≤ hd a1 ∨ hd b1 < hd a1))) (hv : hd a1 < 0) (hy : hd b1 < 0) : FC S 54 [] [(id + 1000, uC rs β)] [] [.box (id + 1000) 0, .sl .any (a.map (.int .i64)), .sl .any (b.map (.int .i64))] (.tup []) [(id + 1000, uC rs (β.set (vIx (hd a1)) b1))] [] := by
 have c1 := root_fc (id + 1000) rs β hβ g a a1 h1 hA
 have c2 := root_fc (id + 1000) rs β hβ g b b1 h2 hB
 have hA1 := rootM_ok hβ h1 hA
 have hB1 := rootM_ok hβ h2 hB
 have hla := hA1.len
 have hlb := hB1.len
 have hga := hA1.get (a := 0) (by omega)
 have hgb := hB1.get (a := 0) (by omega)
 have hlβ := hβ.1
 have hset := uC_set' rs β (hd a1) hB1.ne
 unfold uC at *
 unfold hd at *
 refine fc_body Try.func54 rfl (by kernel_rfl) (by simp [Try.f54]) fun B => ?_
 simp only [Try.ntmps54, enumD, lst0, Nat.reduceAdd]
 repeat' first | ((exfalso; omega)) | refine sw_seq ?_ | refine sw_block ?_ | refine sw_inBlock ?_ | refine sw_skip ?_ | refine sw_go 0 kp54 fun K hK => ?_ | refine sw_goT 0 kp54 9 (id := 7) (by kernel_rfl) fun K hK => ?_ | refine fun (K : KT) (hK : KOk S 0 _ _ _ K) => ?_ | refine sw_goD kp54 (by kernel_rfl) fun K hK => ?_ | ((first | refine runL_go ?_ | refine runQ_go ?_ | refine sw_ret (ret0 ?_) | refine sw_ret ?_); simp (disch := (refine Om.mk ?_; omega)) only [go_sem, Try.results54]) | (refine hK.nil ?_; clear hK K; simp only [go_sem]) | ((first | refine runG_fork rfl rfl rfl rfl rfl ?_ ?_ | refine runQG_fork rfl rfl rfl rfl rfl ?_ ?_ | refine sw_cond rfl ?_ ?_) <;> intro h <;> try simp (disch := (refine Om.mk ?_; omega)) only [go_sem] at h) | refine hK.skp rfl rfl ?_ | refine sw_exit rfl ?_ | refine sw_loopEnd ?_ | refine hK.call rfl rfl rfl (c1) ⟨(by simp [LS.getBox, Lg.look]), rfl, rfl, (by simp only [dstOk, Nat.reduceLT])⟩ ?_ | refine hK.call rfl rfl rfl (c2) ⟨(by simp [LS.getBox, Lg.look]), rfl, rfl, (by simp only [dstOk, Nat.reduceLT])⟩ ?_ | (refine hK.fork rfl rfl rfl ?_ ?_ <;> intro h <;> try simp (disch := (refine Om.mk ?_; omega)) only [go_sem] at h) | (with_reducible refine And.intro (by first | omega | (simp only [lens]; omega)) ?_) | ((with_reducible refine And.intro ?_ ?_); · first | (intro x hx; subst hx; rfl) | (intro x; refine And.intro ?_ ?_ <;> (intros; subst_vars; rfl))) | fail
 all_goals first | exact hset | exact ⟨rfl, hset⟩ | trace_state
theorem equateC2_fc (id : Nat) (rs : List Int) (g : Nat) (β : Bds) (hβ : BOK rs β) (a b a1 b1 : List Int) (hA : XT rs a) (hB : XT rs b) (h1 : rootM β g a = some a1) (h2 : rootM β g b = some b1) (hn1 : ¬ (hd a1 = hd b1 ∧ hd a1 < 0)) (hw : ¬ (hd b1 < 0 ∧ (0 ≤ hd a1 ∨ hd b1 < hd a1))) (hv : hd a1 < 0) (hy : 0 ≤ hd b1) (s : List Bool) (hq : occM β (hd a1) g b1 (List.replicate 48 false) = some (false, s)) : FC S 54 [] [(id + 1000, uC rs β)] [] [.box (id + 1000) 0, .sl .any (a.map (.int .i64)), .sl .any (b.map (.int .i64))] (.tup []) [(id + 1000, uC rs (β.set (vIx (hd a1)) b1))] [] := by
 have c1 := root_fc (id + 1000) rs β hβ g a a1 h1 hA
 have c2 := root_fc (id + 1000) rs β hβ g b b1 h2 hB
 have hA1 := rootM_ok hβ h1 hA
 have hB1 := rootM_ok hβ h2 hB
 have hla := hA1.len
 have hlb := hB1.len
 have hga := hA1.get (a := 0) (by omega)
 have hgb := hB1.get (a := 0) (by omega)
 have hlβ := hβ.1
 have hset := uC_set' rs β (hd a1) hB1.ne
 have cO := occurs_fc id rs β hβ (hd a1) g b1 (List.replicate 48 false) _ hq hB1 (by simp)
 unfold uC at *
 unfold hd at *
 refine fc_body Try.func54 rfl (by kernel_rfl) (by simp [Try.f54]) fun B => ?_
 simp only [Try.ntmps54, enumD, lst0, Nat.reduceAdd]
 repeat' first | ((exfalso; omega)) | ((refine hK.callB rfl rfl rfl (cO) (by refine ⟨⟨?_, ?_, ?_, ?_, ?_⟩, ⟨?_, ?_, ?_, ?_, ?_⟩, ?_⟩ <;> simp [-List.map_set, LS.getBox, Lg.look, D.ids, D.idsL, idsL_bool, idsL_bD, LS.clean, D.puOk, D.pu, D.pu1, D.tks, D.tksL, tksU_ints, tksL_bool, tksL_bD, puOk_intsU, puOk_bool, puOk_bD, inTok]) ?_; simp (disch := (refine Om.mk ?_; omega)) only [go_sem])) | refine sw_seq ?_ | refine sw_block ?_ | refine sw_inBlock ?_ | refine sw_skip ?_ | refine sw_go 0 kp54 fun K hK => ?_ | refine sw_goT 0 kp54 9 (id := 7) (by kernel_rfl) fun K hK => ?_ | refine fun (K : KT) (hK : KOk S 0 _ _ _ K) => ?_ | refine sw_goD kp54 (by kernel_rfl) fun K hK => ?_ | ((first | refine runL_go ?_ | refine runQ_go ?_ | refine sw_ret (ret0 ?_) | refine sw_ret ?_); simp (disch := (refine Om.mk ?_; omega)) only [go_sem, Try.results54]) | (refine hK.nil ?_; clear hK K; simp only [go_sem]) | ((first | refine runG_fork rfl rfl rfl rfl rfl ?_ ?_ | refine runQG_fork rfl rfl rfl rfl rfl ?_ ?_ | refine sw_cond rfl ?_ ?_) <;> intro h <;> try simp (disch := (refine Om.mk ?_; omega)) only [go_sem] at h) | refine hK.skp rfl rfl ?_ | refine sw_exit rfl ?_ | refine sw_loopEnd ?_ | refine hK.call rfl rfl rfl (c1) ⟨(by simp [LS.getBox, Lg.look]), rfl, rfl, (by simp only [dstOk, Nat.reduceLT])⟩ ?_ | refine hK.call rfl rfl rfl (c2) ⟨(by simp [LS.getBox, Lg.look]), rfl, rfl, (by simp only [dstOk, Nat.reduceLT])⟩ ?_ | (refine hK.fork rfl rfl rfl ?_ ?_ <;> intro h <;> try simp (disch := (refine Om.mk ?_; omega)) only [go_sem] at h) | (with_reducible refine And.intro (by first | omega | (simp only [lens]; omega)) ?_) | ((with_reducible refine And.intro ?_ ?_); · first | (intro x hx; subst hx; rfl) | (intro x; refine And.intro ?_ ?_ <;> (intros; subst_vars; rfl))) | fail
 all_goals first | exact hset | exact ⟨rfl, hset⟩ | trace_state
theorem equateC3_fc (id : Nat) (rs : List Int) (g : Nat) (β : Bds) (hβ : BOK rs β) (a b a1 b1 : List Int) (hA : XT rs a) (hB : XT rs b) (h1 : rootM β g a = some a1) (h2 : rootM β g b = some b1) (hn1 : ¬ (hd a1 = hd b1 ∧ hd a1 < 0)) (hw : ¬ (hd b1 < 0 ∧ (0 ≤ hd a1 ∨ hd b1 < hd a1))) (hv : hd a1 < 0) (hy : 0 ≤ hd b1) (s : List Bool) (hq : occM β (hd a1) g b1 (List.replicate 48 false) = some (true, s)) : FCX S 54 [] [(id + 1000, uC rs β)] [] [.box (id + 1000) 0, .sl .any (a.map (.int .i64)), .sl .any (b.map (.int .i64))] (chainE 87) := by
 have c1 := root_fc (id + 1000) rs β hβ g a a1 h1 hA
 have c2 := root_fc (id + 1000) rs β hβ g b b1 h2 hB
 have hA1 := rootM_ok hβ h1 hA
 have hB1 := rootM_ok hβ h2 hB
 have hla := hA1.len
 have hlb := hB1.len
 have hga := hA1.get (a := 0) (by omega)
 have hgb := hB1.get (a := 0) (by omega)
 have hlβ := hβ.1
 have hset := uC_set' rs β (hd a1) hB1.ne
 have cO := occurs_fc id rs β hβ (hd a1) g b1 (List.replicate 48 false) _ hq hB1 (by simp)
 unfold uC at *
 unfold hd at *
 refine fcx_body Try.func54 rfl (by kernel_rfl) (by simp [Try.f54]) fun B hp hp1 => ?_
 simp only [Try.ntmps54, enumD, List.map_nil, List.map_cons, List.length_map, Nat.zero_add, Nat.reduceAdd]
 repeat' first | ((exfalso; omega)) | ((refine hK.callB rfl rfl rfl (cO) (by refine ⟨⟨?_, ?_, ?_, ?_, ?_⟩, ⟨?_, ?_, ?_, ?_, ?_⟩, ?_⟩ <;> simp [-List.map_set, LS.getBox, Lg.look, D.ids, D.idsL, idsL_bool, idsL_bD, LS.clean, D.puOk, D.pu, D.pu1, D.tks, D.tksL, tksU_ints, tksL_bool, tksL_bD, puOk_intsU, puOk_bool, puOk_bD, inTok]) ?_; simp (disch := (refine Om.mk ?_; omega)) only [go_sem])) | ((refine sw_goP 0 1 (id := 6) fun K hK => ?_)) | refine sw_seq ?_ | refine sw_block ?_ | refine sw_inBlock ?_ | refine sw_skip ?_ | refine sw_go 0 kp54 fun K hK => ?_ | refine sw_goT 0 kp54 9 (id := 7) (by kernel_rfl) fun K hK => ?_ | refine fun (K : KT) (hK : KOk S 0 _ _ _ K) => ?_ | refine sw_goD kp54 (by kernel_rfl) fun K hK => ?_ | ((first | refine runL_go ?_ | refine runQ_go ?_ | refine sw_ret (ret0 ?_) | refine sw_ret ?_); simp (disch := (refine Om.mk ?_; omega)) only [go_sem, Try.results54]) | (refine hK.nil ?_; clear hK K; simp only [go_sem]) | ((first | refine runG_fork rfl rfl rfl rfl rfl ?_ ?_ | refine runQG_fork rfl rfl rfl rfl rfl ?_ ?_ | refine sw_cond rfl ?_ ?_) <;> intro h <;> try simp (disch := (refine Om.mk ?_; omega)) only [go_sem] at h) | refine hK.skp rfl rfl ?_ | refine sw_exit rfl ?_ | refine sw_loopEnd ?_ | refine hK.call rfl rfl rfl (c1) ⟨(by simp [LS.getBox, Lg.look]), rfl, rfl, (by simp only [dstOk, Nat.reduceLT])⟩ ?_ | refine hK.call rfl rfl rfl (c2) ⟨(by simp [LS.getBox, Lg.look]), rfl, rfl, (by simp only [dstOk, Nat.reduceLT])⟩ ?_ | (refine hK.fork rfl rfl rfl ?_ ?_ <;> intro h <;> try simp (disch := (refine Om.mk ?_; omega)) only [go_sem] at h) | (with_reducible refine And.intro (by first | omega | (simp only [lens]; omega)) ?_) | ((with_reducible refine And.intro ?_ ?_); · first | (intro x hx; subst hx; rfl) | (intro x; refine And.intro ?_ ?_ <;> (intros; subst_vars; rfl))) | fail
 all_goals try simp only [List.drop_succ_cons, List.drop_zero]
 all_goals refine LopsP.cons (LopsW.mkIface (fun v w => run_makeInterface w _ v (by kernel_rfl)) rfl rfl rfl (by simp only [Nat.reduceLT]) (LopsW.nil ?_))
 all_goals exact LopsP.panic rfl hp
theorem equateS1_fc (id : Nat) (rs : List Int) (g : Nat) (β : Bds) (hβ : BOK rs β) (a b a1 b1 : List Int) (hA : XT rs a) (hB : XT rs b) (h1 : rootM β g a = some a1) (h2 : rootM β g b = some b1) (hn1 : ¬ (hd a1 = hd b1 ∧ hd a1 < 0)) (hw : hd b1 < 0 ∧ (0 ≤ hd a1 ∨ hd b1 < hd a1)) (hy : hd a1 < 0) : FC S 54 [] [(id + 1000, uC rs β)] [] [.box (id + 1000) 0, .sl .any (a.map (.int .i64)), .sl .any (b.map (.int .i64))] (.tup []) [(id + 1000, uC rs (β.set (vIx (hd b1)) a1))] [] := by
 have c1 := root_fc (id + 1000) rs β hβ g a a1 h1 hA
 have c2 := root_fc (id + 1000) rs β hβ g b b1 h2 hB
 have hA1 := rootM_ok hβ h1 hA
 have hB1 := rootM_ok hβ h2 hB
 have hla := hA1.len
 have hlb := hB1.len
 have hga := hA1.get (a := 0) (by omega)
 have hgb := hB1.get (a := 0) (by omega)
 have hlβ := hβ.1
 have hset := uC_set' rs β (hd b1) hA1.ne
 unfold uC at *
 unfold hd at *
 refine fc_body Try.func54 rfl (by kernel_rfl) (by simp [Try.f54]) fun B => ?_
 simp only [Try.ntmps54, enumD, lst0, Nat.reduceAdd]
 repeat' first | ((exfalso; omega)) | refine sw_seq ?_ | refine sw_block ?_ | refine sw_inBlock ?_ | refine sw_skip ?_ | refine sw_go 0 kp54 fun K hK => ?_ | refine sw_goT 0 kp54 9 (id := 7) (by kernel_rfl) fun K hK => ?_ | refine fun (K : KT) (hK : KOk S 0 _ _ _ K) => ?_ | refine sw_goD kp54 (by kernel_rfl) fun K hK => ?_ | ((first | refine runL_go ?_ | refine runQ_go ?_ | refine sw_ret (ret0 ?_) | refine sw_ret ?_); simp (disch := (refine Om.mk ?_; omega)) only [go_sem, Try.results54]) | (refine hK.nil ?_; clear hK K; simp only [go_sem]) | ((first | refine runG_fork rfl rfl rfl rfl rfl ?_ ?_ | refine runQG_fork rfl rfl rfl rfl rfl ?_ ?_ | refine sw_cond rfl ?_ ?_) <;> intro h <;> try simp (disch := (refine Om.mk ?_; omega)) only [go_sem] at h) | refine hK.skp rfl rfl ?_ | refine sw_exit rfl ?_ | refine sw_loopEnd ?_ | refine hK.call rfl rfl rfl (c1) ⟨(by simp [LS.getBox, Lg.look]), rfl, rfl, (by simp only [dstOk, Nat.reduceLT])⟩ ?_ | refine hK.call rfl rfl rfl (c2) ⟨(by simp [LS.getBox, Lg.look]), rfl, rfl, (by simp only [dstOk, Nat.reduceLT])⟩ ?_ | (refine hK.fork rfl rfl rfl ?_ ?_ <;> intro h <;> try simp (disch := (refine Om.mk ?_; omega)) only [go_sem] at h) | (with_reducible refine And.intro (by first | omega | (simp only [lens]; omega)) ?_) | ((with_reducible refine And.intro ?_ ?_); · first | (intro x hx; subst hx; rfl) | (intro x; refine And.intro ?_ ?_ <;> (intros; subst_vars; rfl))) | fail
 all_goals first | exact hset | exact ⟨rfl, hset⟩ | trace_state
theorem equateS2_fc (id : Nat) (rs : List Int) (g : Nat) (β : Bds) (hβ : BOK rs β) (a b a1 b1 : List Int) (hA : XT rs a) (hB : XT rs b) (h1 : rootM β g a = some a1) (h2 : rootM β g b = some b1) (hn1 : ¬ (hd a1 = hd b1 ∧ hd a1 < 0)) (hw : hd b1 < 0 ∧ (0 ≤ hd a1 ∨ hd b1 < hd a1)) (hy : 0 ≤ hd a1) (s : List Bool) (hq : occM β (hd b1) g a1 (List.replicate 48 false) = some (false, s)) : FC S 54 [] [(id + 1000, uC rs β)] [] [.box (id + 1000) 0, .sl .any (a.map (.int .i64)), .sl .any (b.map (.int .i64))] (.tup []) [(id + 1000, uC rs (β.set (vIx (hd b1)) a1))] [] := by
 have c1 := root_fc (id + 1000) rs β hβ g a a1 h1 hA
 have c2 := root_fc (id + 1000) rs β hβ g b b1 h2 hB
 have hA1 := rootM_ok hβ h1 hA
 have hB1 := rootM_ok hβ h2 hB
 have hla := hA1.len
 have hlb := hB1.len
 have hga := hA1.get (a := 0) (by omega)
 have hgb := hB1.get (a := 0) (by omega)
 have hlβ := hβ.1
 have hset := uC_set' rs β (hd b1) hA1.ne
 have cO := occurs_fc id rs β hβ (hd b1) g a1 (List.replicate 48 false) _ hq hA1 (by simp)
 unfold uC at *
 unfold hd at *
 refine fc_body Try.func54 rfl (by kernel_rfl) (by simp [Try.f54]) fun B => ?_
 simp only [Try.ntmps54, enumD, lst0, Nat.reduceAdd]
 repeat' first | ((exfalso; omega)) | ((refine hK.callB rfl rfl rfl (cO) (by refine ⟨⟨?_, ?_, ?_, ?_, ?_⟩, ⟨?_, ?_, ?_, ?_, ?_⟩, ?_⟩ <;> simp [-List.map_set, LS.getBox, Lg.look, D.ids, D.idsL, idsL_bool, idsL_bD, LS.clean, D.puOk, D.pu, D.pu1, D.tks, D.tksL, tksU_ints, tksL_bool, tksL_bD, puOk_intsU, puOk_bool, puOk_bD, inTok]) ?_; simp (disch := (refine Om.mk ?_; omega)) only [go_sem])) | refine sw_seq ?_ | refine sw_block ?_ | refine sw_inBlock ?_ | refine sw_skip ?_ | refine sw_go 0 kp54 fun K hK => ?_ | refine sw_goT 0 kp54 9 (id := 7) (by kernel_rfl) fun K hK => ?_ | refine fun (K : KT) (hK : KOk S 0 _ _ _ K) => ?_ | refine sw_goD kp54 (by kernel_rfl) fun K hK => ?_ | ((first | refine runL_go ?_ | refine runQ_go ?_ | refine sw_ret (ret0 ?_) | refine sw_ret ?_); simp (disch := (refine Om.mk ?_; omega)) only [go_sem, Try.results54]) | (refine hK.nil ?_; clear hK K; simp only [go_sem]) | ((first | refine runG_fork rfl rfl rfl rfl rfl ?_ ?_ | refine runQG_fork rfl rfl rfl rfl rfl ?_ ?_ | refine sw_cond rfl ?_ ?_) <;> intro h <;> try simp (disch := (refine Om.mk ?_; omega)) only [go_sem] at h) | refine hK.skp rfl rfl ?_ | refine sw_exit rfl ?_ | refine sw_loopEnd ?_ | refine hK.call rfl rfl rfl (c1) ⟨(by simp [LS.getBox, Lg.look]), rfl, rfl, (by simp only [dstOk, Nat.reduceLT])⟩ ?_ | refine hK.call rfl rfl rfl (c2) ⟨(by simp [LS.getBox, Lg.look]), rfl, rfl, (by simp only [dstOk, Nat.reduceLT])⟩ ?_ | (refine hK.fork rfl rfl rfl ?_ ?_ <;> intro h <;> try simp (disch := (refine Om.mk ?_; omega)) only [go_sem] at h) | (with_reducible refine And.intro (by first | omega | (simp only [lens]; omega)) ?_) | ((with_reducible refine And.intro ?_ ?_); · first | (intro x hx; subst hx; rfl) | (intro x; refine And.intro ?_ ?_ <;> (intros; subst_vars; rfl))) | fail
 all_goals first | exact hset | exact ⟨rfl, hset⟩ | trace_state
theorem equateS3_fc (id : Nat) (rs : List Int) (g : Nat) (β : Bds) (hβ : BOK rs β) (a b a1 b1 : List Int) (hA : XT rs a) (hB : XT rs b) (h1 : rootM β g a = some a1) (h2 : rootM β g b = some b1) (hn1 : ¬ (hd a1 = hd b1 ∧ hd a1 < 0)) (hw : hd b1 < 0 ∧ (0 ≤ hd a1 ∨ hd b1 < hd a1)) (hy : 0 ≤ hd a1) (s : List Bool) (hq : occM β (hd b1) g a1 (List.replicate 48 false) = some (true, s)) : FCX S 54 [] [(id + 1000, uC rs β)] [] [.box (id + 1000) 0, .sl .any (a.map (.int .i64)), .sl .any (b.map (.int .i64))] (chainE 87) := by
 have c1 := root_fc (id + 1000) rs β hβ g a a1 h1 hA
 have c2 := root_fc (id + 1000) rs β hβ g b b1 h2 hB
 have hA1 := rootM_ok hβ h1 hA
 have hB1 := rootM_ok hβ h2 hB
 have hla := hA1.len
 have hlb := hB1.len
 have hga := hA1.get (a := 0) (by omega)
 have hgb := hB1.get (a := 0) (by omega)
 have hlβ := hβ.1
 have hset := uC_set' rs β (hd b1) hA1.ne
 have cO := occurs_fc id rs β hβ (hd b1) g a1 (List.replicate 48 false) _ hq hA1 (by simp)
 unfold uC at *
 unfold hd at *
 refine fcx_body Try.func54 rfl (by kernel_rfl) (by simp [Try.f54]) fun B hp hp1 => ?_
 simp only [Try.ntmps54, enumD, List.map_nil, List.map_cons, List.length_map, Nat.zero_add, Nat.reduceAdd]
 repeat' first | ((exfalso; omega)) | ((refine hK.callB rfl rfl rfl (cO) (by refine ⟨⟨?_, ?_, ?_, ?_, ?_⟩, ⟨?_, ?_, ?_, ?_, ?_⟩, ?_⟩ <;> simp [-List.map_set, LS.getBox, Lg.look, D.ids, D.idsL, idsL_bool, idsL_bD, LS.clean, D.puOk, D.pu, D.pu1, D.tks, D.tksL, tksU_ints, tksL_bool, tksL_bD, puOk_intsU, puOk_bool, puOk_bD, inTok]) ?_; simp (disch := (refine Om.mk ?_; omega)) only [go_sem])) | ((refine sw_goP 0 1 (id := 6) fun K hK => ?_)) | refine sw_seq ?_ | refine sw_block ?_ | refine sw_inBlock ?_ | refine sw_skip ?_ | refine sw_go 0 kp54 fun K hK => ?_ | refine sw_goT 0 kp54 9 (id := 7) (by kernel_rfl) fun K hK => ?_ | refine fun (K : KT) (hK : KOk S 0 _ _ _ K) => ?_ | refine sw_goD kp54 (by kernel_rfl) fun K hK => ?_ | ((first | refine runL_go ?_ | refine runQ_go ?_ | refine sw_ret (ret0 ?_) | refine sw_ret ?_); simp (disch := (refine Om.mk ?_; omega)) only [go_sem, Try.results54]) | (refine hK.nil ?_; clear hK K; simp only [go_sem]) | ((first | refine runG_fork rfl rfl rfl rfl rfl ?_ ?_ | refine runQG_fork rfl rfl rfl rfl rfl ?_ ?_ | refine sw_cond rfl ?_ ?_) <;> intro h <;> try simp (disch := (refine Om.mk ?_; omega)) only [go_sem] at h) | refine hK.skp rfl rfl ?_ | refine sw_exit rfl ?_ | refine sw_loopEnd ?_ | refine hK.call rfl rfl rfl (c1) ⟨(by simp [LS.getBox, Lg.look]), rfl, rfl, (by simp only [dstOk, Nat.reduceLT])⟩ ?_ | refine hK.call rfl rfl rfl (c2) ⟨(by simp [LS.getBox, Lg.look]), rfl, rfl, (by simp only [dstOk, Nat.reduceLT])⟩ ?_ | (refine hK.fork rfl rfl rfl ?_ ?_ <;> intro h <;> try simp (disch := (refine Om.mk ?_; omega)) only [go_sem] at h) | (with_reducible refine And.intro (by first | omega | (simp only [lens]; omega)) ?_) | ((with_reducible refine And.intro ?_ ?_); · first | (intro x hx; subst hx; rfl) | (intro x; refine And.intro ?_ ?_ <;> (intros; subst_vars; rfl))) | fail
 all_goals try simp only [List.drop_succ_cons, List.drop_zero]
 all_goals refine LopsP.cons (LopsW.mkIface (fun v w => run_makeInterface w _ v (by kernel_rfl)) rfl rfl rfl (by simp only [Nat.reduceLT]) (LopsW.nil ?_))
 all_goals exact LopsP.panic rfl hp
theorem equateN_fc (id : Nat) (rs : List Int) (g : Nat) (β : Bds) (hβ : BOK rs β) (a b a1 b1 : List Int) (hA : XT rs a) (hB : XT rs b) (h1 : rootM β g a = some a1) (h2 : rootM β g b = some b1) (hv : 0 ≤ hd a1) (hy : 0 ≤ hd b1) (hne : hd a1 ≠ hd b1) : FCX S 54 [] [(id + 1000, uC rs β)] [] [.box (id + 1000) 0, .sl .any (a.map (.int .i64)), .sl .any (b.map (.int .i64))] (chainE 87) := by
 have c1 := root_fc (id + 1000) rs β hβ g a a1 h1 hA
 have c2 := root_fc (id + 1000) rs β hβ g b b1 h2 hB
 have hA1 := rootM_ok hβ h1 hA
 have hB1 := rootM_ok hβ h2 hB
 have hla := hA1.len
 have hlb := hB1.len
 have hga := hA1.get (a := 0) (by omega)
 have hgb := hB1.get (a := 0) (by omega)
 have hlβ := hβ.1
 unfold uC at *
 unfold hd at *
 refine fcx_body Try.func54 rfl (by kernel_rfl) (by simp [Try.f54]) fun B hp hp1 => ?_
 simp only [Try.ntmps54, enumD, List.map_nil, List.map_cons, List.length_map, Nat.zero_add, Nat.reduceAdd]
 repeat' first | ((exfalso; omega)) | ((refine sw_goP 0 1 (id := 9) fun K hK => ?_)) | refine sw_seq ?_ | refine sw_block ?_ | refine sw_inBlock ?_ | refine sw_skip ?_ | refine sw_go 0 kp54 fun K hK => ?_ | refine sw_goT 0 kp54 9 (id := 7) (by kernel_rfl) fun K hK => ?_ | refine fun (K : KT) (hK : KOk S 0 _ _ _ K) => ?_ | refine sw_goD kp54 (by kernel_rfl) fun K hK => ?_ | ((first | refine runL_go ?_ | refine runQ_go ?_ | refine sw_ret (ret0 ?_) | refine sw_ret ?_); simp (disch := (refine Om.mk ?_; omega)) only [go_sem, Try.results54]) | (refine hK.nil ?_; clear hK K; simp only [go_sem]) | ((first | refine runG_fork rfl rfl rfl rfl rfl ?_ ?_ | refine runQG_fork rfl rfl rfl rfl rfl ?_ ?_ | refine sw_cond rfl ?_ ?_) <;> intro h <;> try simp (disch := (refine Om.mk ?_; omega)) only [go_sem] at h) | refine hK.skp rfl rfl ?_ | refine sw_exit rfl ?_ | refine sw_loopEnd ?_ | refine hK.call rfl rfl rfl (c1) ⟨(by simp [LS.getBox, Lg.look]), rfl, rfl, (by simp only [dstOk, Nat.reduceLT])⟩ ?_ | refine hK.call rfl rfl rfl (c2) ⟨(by simp [LS.getBox, Lg.look]), rfl, rfl, (by simp only [dstOk, Nat.reduceLT])⟩ ?_ | (refine hK.fork rfl rfl rfl ?_ ?_ <;> intro h <;> try simp (disch := (refine Om.mk ?_; omega)) only [go_sem] at h) | (with_reducible refine And.intro (by first | omega | (simp only [lens]; omega)) ?_) | ((with_reducible refine And.intro ?_ ?_); · first | (intro x hx; subst hx; rfl) | (intro x; refine And.intro ?_ ?_ <;> (intros; subst_vars; rfl))) | fail
 all_goals try simp only [List.drop_succ_cons, List.drop_zero]
 all_goals refine LopsP.cons (LopsW.mkIface (fun v w => run_makeInterface w _ v (by kernel_rfl)) rfl rfl rfl (by simp only [Nat.reduceLT]) (LopsW.nil ?_))
 all_goals exact LopsP.panic rfl hp
end Go.Proofs.Ytmogobaaophknaa
end
section
namespace Go.Proofs.Ytmogobaaophknaa
open Go Go.Lg
set_option linter.unusedSimpArgs false
set_option linter.unusedVariables false
set_option maxHeartbeats 4000000
attribute [local irreducible] SW runL runQ runG runQG FC Ret1 bD
theorem tksU_nat (ys : List Nat) : D.tksL (ys.map natD) = [] := by
 induction ys with
 | nil => rfl
 | cons y r ih => simp [D.tksL, D.tks, natD, ih]
def EqOk (rs : List Int) (rec : Bds → List Int → List Int → Option (Option Bds)) (id : Nat) : Prop := ∀ (β : Bds) (a b : List Int), BOK rs β → XT rs a → XT rs b →
 (∀ β', rec β a b = some (some β') → BOK rs β' ∧ FC S 54 [] [(id + 1000, uC rs β)] [] [.box (id + 1000) 0, .sl .any (a.map (.int .i64)), .sl .any (b.map (.int .i64))] (.tup []) [(id + 1000, uC rs β')] []) ∧
 (rec β a b = some none → FCX S 54 [] [(id + 1000, uC rs β)] [] [.box (id + 1000) 0, .sl .any (a.map (.int .i64)), .sl .any (b.map (.int .i64))] (chainE 87))
theorem pairsX_len (rs a b : List Int) : (pairsX rs a b).length = (argsS rs (phiL a) 0).length := by simp [pairsX]
theorem pairsX_drop (rs a b : List Int) {i : Nat} (h : i < (argsS rs (phiL a) 0).length) : (pairsX rs a b).drop i = (subX rs a ((argsS rs (phiL a) 0).getD i default), subX rs b ((argsS rs (phiL b) 0).getD i default)) :: (pairsX rs a b).drop (i + 1) := by
 rw [List.drop_eq_getElem_cons (by rw [pairsX_len]; exact h)]
 simp [pairsX]
theorem argsX_len {rs a b : List Int} (hA : XT rs a) (hB : XT rs b) (he : hd a = hd b) : (argsS rs (phiL b) 0).length = (argsS rs (phiL a) 0).length := by
 have h1 := hA.len
 have h2 := hB.len
 unfold argsS
 rw [begS_length, begS_length, phiL_get b 0 (by omega), phiL_get a 0 (by omega)]
 unfold hd at he
 rw [he]
theorem argsX_lt {rs a : List Int} (hA : XT rs a) {i : Nat} (hi : i < (argsS rs (phiL a) 0).length) : (argsS rs (phiL a) 0).getD i default < a.length := by
 have h1 := hA.len
 have := (argsS_lt hA.1 (a := 0) (by rw [phiL_len]; omega) _ (getD_mem _ i hi)).2
 rwa [phiL_len] at this
theorem pairsX_ok {rs a b : List Int} (hA : XT rs a) (hB : XT rs b) (he : hd a = hd b) : ∀ p ∈ pairsX rs a b, XT rs p.1 ∧ XT rs p.2 := fun p hp => by
 obtain ⟨k, hk, rfl⟩ := List.mem_map.1 hp
 have hk := List.mem_range.1 hk
 exact ⟨subX_ok hA (argsX_lt hA hk), subX_ok hB (argsX_lt hB (by rw [argsX_len hA hB he]; exact hk))⟩
theorem eqL_ok {rs : List Int} {rec : Bds → List Int → List Int → Option (Option Bds)} {id : Nat} (hr : EqOk rs rec id) : ∀ {ps : List (List Int × List Int)} {β β' : Bds}, (∀ p ∈ ps, XT rs p.1 ∧ XT rs p.2) → BOK rs β → eqL rec ps β = some (some β') → BOK rs β'
 | [], β, β', _, hβ, h => by obtain rfl := Option.some.inj (Option.some.inj h); exact hβ
 | p :: r, β, β', hp, hβ, h => by
  unfold eqL at h
  split at h
  ·cases h
  ·cases h
  ·rename_i δ hx
   have h0 := hp p (List.mem_cons_self ..)
   exact eqL_ok hr (fun q hq => hp q (List.mem_cons_of_mem _ hq)) ((hr β _ _ hβ h0.1 h0.2).1 δ hx).1 h
theorem equateL_fc (id : Nat) (rs : List Int) (g : Nat) (β : Bds) (hβ : BOK rs β) (a b a1 b1 : List Int) (hA : XT rs a) (hB : XT rs b) (h1 : rootM β g a = some a1) (h2 : rootM β g b = some b1) (rec : Bds → List Int → List Int → Option (Option Bds)) (hr : EqOk rs rec id) (β' : Bds) (hl : eqL rec (pairsX rs a1 b1) β = some (some β')) (he : hd a1 = hd b1) (h0 : 0 ≤ hd a1) : FC S 54 [] [(id + 1000, uC rs β)] [] [.box (id + 1000) 0, .sl .any (a.map (.int .i64)), .sl .any (b.map (.int .i64))] (.tup []) [(id + 1000, uC rs β')] [] := by
 have c1 := root_fc (id + 1000) rs β hβ g a a1 h1 hA
 have c2 := root_fc (id + 1000) rs β hβ g b b1 h2 hB
 have hA1 := rootM_ok hβ h1 hA
 have hB1 := rootM_ok hβ h2 hB
 have hla := hA1.len
 have hlb := hB1.len
 have hga := hA1.get (a := 0) (by omega)
 have hgb := hB1.get (a := 0) (by omega)
 have hlβ := hβ.1
 have hlen := argsX_len hA1 hB1 he
 have hn8 : (argsS rs (phiL a1) 0).length ≤ 60 := by
  unfold argsS; rw [begS_length]
  have := arS_rng hA1.1.1 ((phiL a1).getD 0 default)
  omega
 have cP := argsAtX_fc .any .any rs a1 0 hA1 (by omega)
 have cQ := argsAtX_fc .any .any rs b1 0 hB1 (by omega)
 unfold uC at *
 unfold hd at *
 refine fc_body Try.func54 rfl (by kernel_rfl) (by simp [Try.f54]) fun B => ?_
 simp only [Try.ntmps54, enumD, lst0, Nat.reduceAdd]
 repeat' first | ((exfalso; omega)) | refine sw_seq ?_ | refine sw_block ?_ | refine sw_inBlock ?_ | refine sw_skip ?_ | refine sw_go 0 kp54 fun K hK => ?_ | refine sw_goT 0 kp54 9 (id := 7) (by kernel_rfl) fun K hK => ?_ | refine fun (K : KT) (hK : KOk S 0 _ _ _ K) => ?_ | refine sw_goD kp54 (by kernel_rfl) fun K hK => ?_ | ((first | refine runL_go ?_ | refine runQ_go ?_ | refine sw_ret (ret0 ?_) | refine sw_ret ?_); simp (disch := (refine Om.mk ?_; omega)) only [go_sem, Try.results54]) | (refine hK.nil ?_; clear hK K; simp only [go_sem]) | ((first | refine runG_fork rfl rfl rfl rfl rfl ?_ ?_ | refine runQG_fork rfl rfl rfl rfl rfl ?_ ?_ | refine sw_cond rfl ?_ ?_) <;> intro h <;> try simp (disch := (refine Om.mk ?_; omega)) only [go_sem] at h) | refine hK.skp rfl rfl ?_ | refine sw_exit rfl ?_ | refine sw_loopEnd ?_ | refine hK.call rfl rfl rfl (c1) ⟨(by simp [LS.getBox, Lg.look]), rfl, rfl, (by simp only [dstOk, Nat.reduceLT])⟩ ?_ | refine hK.call rfl rfl rfl (c2) ⟨(by simp [LS.getBox, Lg.look]), rfl, rfl, (by simp only [dstOk, Nat.reduceLT])⟩ ?_ | refine hK.c0 rfl rfl rfl (cP) rfl rfl rfl ?_ | refine hK.c0 rfl rfl rfl (cQ) rfl rfl rfl ?_ | (refine hK.fork rfl rfl rfl ?_ ?_ <;> intro h <;> try simp (disch := (refine Om.mk ?_; omega)) only [go_sem] at h) | (with_reducible refine And.intro (by first | omega | (simp only [lens]; omega)) ?_) | ((with_reducible refine And.intro ?_ ?_); · first | (intro x hx; subst hx; rfl) | (intro x; refine And.intro ?_ ?_ <;> (intros; subst_vars; rfl))) | fail
 refine sw_loopU (ι := Nat × Bds) (fun p => [(101, .int .i64 p.1)]) (fun p => [(id + 1000, D.sl .any (rs.map (.int .i64)) :: p.2.map bD)]) (fun p => (p.1 ≤ (argsS rs (phiL a1) 0).length ∧ BOK rs p.2) ∧ eqL rec ((pairsX rs a1 b1).drop p.1) p.2 = some (some β')) (fun p => (argsS rs (phiL a1) 0).length - p.1) (0, β) (by (refine covers_mk0 rfl rfl ?_ ?_ ?_ ?_ <;> simp (disch := (refine Om.mk ?_; omega)) only [go_sem] <;> (try omega))) ?_ (fun p hp => ?_)
 rotate_left
 simp only [go_sem]
 obtain ⟨i, γ⟩ := p
 obtain ⟨⟨hi, hγ⟩, h3⟩ := hp
 dsimp only at hi hγ h3
 by_cases hil : i < (argsS rs (phiL a1) 0).length
 ·rw [pairsX_drop rs a1 b1 hil] at h3
  have hXa := subX_ok hA1 (argsX_lt hA1 hil)
  have hXb := subX_ok hB1 (argsX_lt hB1 (i := i) (by omega))
  have cS := subAtX_fc .any .any rs a1 _ hA1 (argsX_lt hA1 hil)
  have cT := subAtX_fc .any .any rs b1 _ hB1 (argsX_lt hB1 (i := i) (by omega))
  unfold eqL at h3
  dsimp only at h3
  obtain ⟨δ, hδ⟩ : ∃ δ, rec γ (subX rs a1 ((argsS rs (phiL a1) 0).getD i default)) (subX rs b1 ((argsS rs (phiL b1) 0).getD i default)) = some (some δ) := by
   split at h3
   ·cases h3
   ·cases h3
   ·rename_i δ hx; exact ⟨δ, hx⟩
  rw [hδ] at h3
  dsimp only at h3
  obtain ⟨hδB, cE⟩ := (hr γ _ _ hγ hXa hXb).1 δ hδ
  unfold uC at cE
  repeat' first | ((exfalso; omega)) | ((refine hK.callB rfl rfl rfl (cE) (by refine ⟨⟨?_, ?_, ?_, ?_, ?_⟩, ⟨?_, ?_, ?_, ?_, ?_⟩, ?_⟩ <;> simp [-List.map_set, LS.getBox, Lg.look, D.ids, D.idsL, idsL_bool, idsL_bD, LS.clean, D.puOk, D.pu, D.pu1, D.tks, D.tksL, tksU_ints, tksL_bool, tksL_bD, puOk_intsU, puOk_bool, puOk_bD, inTok]) ?_; simp (disch := (refine Om.mk ?_; omega)) only [go_sem])) | refine sw_seq ?_ | refine sw_block ?_ | refine sw_inBlock ?_ | refine sw_skip ?_ | refine sw_go 0 kp54 fun K hK => ?_ | refine sw_goT 0 kp54 9 (id := 7) (by kernel_rfl) fun K hK => ?_ | refine sw_goT 0 kp54 21 (id := 14) (by kernel_rfl) fun K hK => ?_ | refine fun (K : KT) (hK : KOk S 0 _ _ _ K) => ?_ | refine sw_goD kp54 (by kernel_rfl) fun K hK => ?_ | ((first | refine runL_go ?_ | refine runQ_go ?_ | refine sw_ret (ret0 ?_) | refine sw_ret ?_); simp (disch := (refine Om.mk ?_; omega)) only [go_sem, Try.results54]) | (refine hK.nil ?_; clear hK K; simp only [go_sem]) | ((first | refine runG_fork rfl rfl rfl rfl rfl ?_ ?_ | refine runQG_fork rfl rfl rfl rfl rfl ?_ ?_ | refine sw_cond rfl ?_ ?_) <;> intro h <;> try simp (disch := (refine Om.mk ?_; omega)) only [go_sem] at h) | refine hK.skp rfl rfl ?_ | refine sw_exit rfl ?_ | refine sw_loopEnd ?_ | refine hK.c0 rfl rfl rfl (cS) rfl rfl rfl ?_ | refine hK.c0 rfl rfl rfl (cT) rfl rfl rfl ?_ | (refine hK.fork rfl rfl rfl ?_ ?_ <;> intro h <;> try simp (disch := (refine Om.mk ?_; omega)) only [go_sem] at h) | (with_reducible refine And.intro (by first | omega | (simp only [lens]; omega)) ?_) | ((with_reducible refine And.intro ?_ ?_); · first | (intro x hx; subst hx; rfl) | (intro x; refine And.intro ?_ ?_ <;> (intros; subst_vars; rfl))) | fail
  all_goals exact ⟨(i + 1, δ), (by (refine covers_mk0 rfl rfl ?_ ?_ ?_ ?_ <;> simp (disch := (refine Om.mk ?_; omega)) only [go_sem] <;> (try omega))), ⟨⟨by omega, hδB⟩, h3⟩, by omega⟩
 ·rw [List.drop_of_length_le (by rw [pairsX_len]; omega)] at h3
  obtain rfl := Option.some.inj (Option.some.inj h3)
  repeat' first | ((exfalso; omega)) | refine sw_seq ?_ | refine sw_block ?_ | refine sw_inBlock ?_ | refine sw_skip ?_ | refine sw_go 0 kp54 fun K hK => ?_ | refine sw_goT 0 kp54 9 (id := 7) (by kernel_rfl) fun K hK => ?_ | refine fun (K : KT) (hK : KOk S 0 _ _ _ K) => ?_ | refine sw_goD kp54 (by kernel_rfl) fun K hK => ?_ | ((first | refine runL_go ?_ | refine runQ_go ?_ | refine sw_ret (ret0 ?_) | refine sw_ret ?_); simp (disch := (refine Om.mk ?_; omega)) only [go_sem, Try.results54]) | (refine hK.nil ?_; clear hK K; simp only [go_sem]) | ((first | refine runG_fork rfl rfl rfl rfl rfl ?_ ?_ | refine runQG_fork rfl rfl rfl rfl rfl ?_ ?_ | refine sw_cond rfl ?_ ?_) <;> intro h <;> try simp (disch := (refine Om.mk ?_; omega)) only [go_sem] at h) | refine hK.skp rfl rfl ?_ | refine sw_exit rfl ?_ | refine sw_loopEnd ?_ | (refine hK.fork rfl rfl rfl ?_ ?_ <;> intro h <;> try simp (disch := (refine Om.mk ?_; omega)) only [go_sem] at h) | (with_reducible refine And.intro (by first | omega | (simp only [lens]; omega)) ?_) | ((with_reducible refine And.intro ?_ ?_); · first | (intro x hx; subst hx; rfl) | (intro x; refine And.intro ?_ ?_ <;> (intros; subst_vars; rfl))) | fail
  refine sw_nil ?_
  simp only [go_sem, Try.results54]
  all_goals trace_state
 ·exact ⟨⟨by omega, hβ⟩, hl⟩
theorem equateM_fc (id : Nat) (rs : List Int) (g : Nat) (β : Bds) (hβ : BOK rs β) (a b a1 b1 : List Int) (hA : XT rs a) (hB : XT rs b) (h1 : rootM β g a = some a1) (h2 : rootM β g b = some b1) (rec : Bds → List Int → List Int → Option (Option Bds)) (hr : EqOk rs rec id) (hl : eqL rec (pairsX rs a1 b1) β = some none) (he : hd a1 = hd b1) (h0 : 0 ≤ hd a1) : FCX S 54 [] [(id + 1000, uC rs β)] [] [.box (id + 1000) 0, .sl .any (a.map (.int .i64)), .sl .any (b.map (.int .i64))] (chainE 87) := by
 have c1 := root_fc (id + 1000) rs β hβ g a a1 h1 hA
 have c2 := root_fc (id + 1000) rs β hβ g b b1 h2 hB
 have hA1 := rootM_ok hβ h1 hA
 have hB1 := rootM_ok hβ h2 hB
 have hla := hA1.len
 have hlb := hB1.len
 have hga := hA1.get (a := 0) (by omega)
 have hgb := hB1.get (a := 0) (by omega)
 have hlβ := hβ.1
 have hlen := argsX_len hA1 hB1 he
 have hn8 : (argsS rs (phiL a1) 0).length ≤ 60 := by
  unfold argsS; rw [begS_length]
  have := arS_rng hA1.1.1 ((phiL a1).getD 0 default)
  omega
 have cP := argsAtX_fc .any .any rs a1 0 hA1 (by omega)
 have cQ := argsAtX_fc .any .any rs b1 0 hB1 (by omega)
 unfold uC at *
 unfold hd at *
 refine fcx_body Try.func54 rfl (by kernel_rfl) (by simp [Try.f54]) fun B hp hp1 => ?_
 simp only [Try.ntmps54, enumD, List.map_nil, List.map_cons, List.length_map, Nat.zero_add, Nat.reduceAdd]
 repeat' first | ((exfalso; omega)) | refine sw_seq ?_ | refine sw_block ?_ | refine sw_inBlock ?_ | refine sw_skip ?_ | refine sw_go 0 kp54 fun K hK => ?_ | refine sw_goT 0 kp54 9 (id := 7) (by kernel_rfl) fun K hK => ?_ | refine fun (K : KT) (hK : KOk S 0 _ _ _ K) => ?_ | refine sw_goD kp54 (by kernel_rfl) fun K hK => ?_ | ((first | refine runL_go ?_ | refine runQ_go ?_ | refine sw_ret (ret0 ?_) | refine sw_ret ?_); simp (disch := (refine Om.mk ?_; omega)) only [go_sem, Try.results54]) | (refine hK.nil ?_; clear hK K; simp only [go_sem]) | ((first | refine runG_fork rfl rfl rfl rfl rfl ?_ ?_ | refine runQG_fork rfl rfl rfl rfl rfl ?_ ?_ | refine sw_cond rfl ?_ ?_) <;> intro h <;> try simp (disch := (refine Om.mk ?_; omega)) only [go_sem] at h) | refine hK.skp rfl rfl ?_ | refine sw_exit rfl ?_ | refine sw_loopEnd ?_ | refine hK.call rfl rfl rfl (c1) ⟨(by simp [LS.getBox, Lg.look]), rfl, rfl, (by simp only [dstOk, Nat.reduceLT])⟩ ?_ | refine hK.call rfl rfl rfl (c2) ⟨(by simp [LS.getBox, Lg.look]), rfl, rfl, (by simp only [dstOk, Nat.reduceLT])⟩ ?_ | refine hK.c0 rfl rfl rfl (cP) rfl rfl rfl ?_ | refine hK.c0 rfl rfl rfl (cQ) rfl rfl rfl ?_ | (refine hK.fork rfl rfl rfl ?_ ?_ <;> intro h <;> try simp (disch := (refine Om.mk ?_; omega)) only [go_sem] at h) | (with_reducible refine And.intro (by first | omega | (simp only [lens]; omega)) ?_) | ((with_reducible refine And.intro ?_ ?_); · first | (intro x hx; subst hx; rfl) | (intro x; refine And.intro ?_ ?_ <;> (intros; subst_vars; rfl))) | fail
 refine sw_loopU (ι := Nat × Bds) (fun p => [(101, .int .i64 p.1)]) (fun p => [(id + 1000, D.sl .any (rs.map (.int .i64)) :: p.2.map bD)]) (fun p => (p.1 ≤ (argsS rs (phiL a1) 0).length ∧ BOK rs p.2) ∧ eqL rec ((pairsX rs a1 b1).drop p.1) p.2 = some none) (fun p => (argsS rs (phiL a1) 0).length - p.1) (0, β) (by (refine covers_mk0 rfl rfl ?_ ?_ ?_ ?_ <;> simp (disch := (refine Om.mk ?_; omega)) only [go_sem] <;> (try omega))) ?_ (fun p hp => ?_)
 rotate_left
 simp only [go_sem]
 obtain ⟨i, γ⟩ := p
 obtain ⟨⟨hi, hγ⟩, h3⟩ := hp
 dsimp only at hi hγ h3
 by_cases hil : i < (argsS rs (phiL a1) 0).length
 ·rw [pairsX_drop rs a1 b1 hil] at h3
  have hXa := subX_ok hA1 (argsX_lt hA1 hil)
  have hXb := subX_ok hB1 (argsX_lt hB1 (i := i) (by omega))
  have cS := subAtX_fc .any .any rs a1 _ hA1 (argsX_lt hA1 hil)
  have cT := subAtX_fc .any .any rs b1 _ hB1 (argsX_lt hB1 (i := i) (by omega))
  unfold eqL at h3
  dsimp only at h3
  have hR := hr γ _ _ hγ hXa hXb
  cases hx : rec γ (subX rs a1 ((argsS rs (phiL a1) 0).getD i default)) (subX rs b1 ((argsS rs (phiL b1) 0).getD i default)) with
  | none => rw [hx] at h3; cases h3
  | some o =>
   rw [hx] at h3
   cases o with
   | none =>
    have cE := hR.2 hx
    unfold uC at cE
    repeat' first | ((exfalso; omega)) | ((refine sw_goTP 21 (id := 14) (by kernel_rfl) fun K hK => ?_)) | refine sw_seq ?_ | refine sw_block ?_ | refine sw_inBlock ?_ | refine sw_skip ?_ | refine sw_go 0 kp54 fun K hK => ?_ | refine sw_goT 0 kp54 9 (id := 7) (by kernel_rfl) fun K hK => ?_ | refine fun (K : KT) (hK : KOk S 0 _ _ _ K) => ?_ | refine sw_goD kp54 (by kernel_rfl) fun K hK => ?_ | ((first | refine runL_go ?_ | refine runQ_go ?_ | refine sw_ret (ret0 ?_) | refine sw_ret ?_); simp (disch := (refine Om.mk ?_; omega)) only [go_sem, Try.results54]) | (refine hK.nil ?_; clear hK K; simp only [go_sem]) | ((first | refine runG_fork rfl rfl rfl rfl rfl ?_ ?_ | refine runQG_fork rfl rfl rfl rfl rfl ?_ ?_ | refine sw_cond rfl ?_ ?_) <;> intro h <;> try simp (disch := (refine Om.mk ?_; omega)) only [go_sem] at h) | refine hK.skp rfl rfl ?_ | refine sw_exit rfl ?_ | refine sw_loopEnd ?_ | refine hK.c0 rfl rfl rfl (cS) rfl rfl rfl ?_ | refine hK.c0 rfl rfl rfl (cT) rfl rfl rfl ?_ | (refine hK.fork rfl rfl rfl ?_ ?_ <;> intro h <;> try simp (disch := (refine Om.mk ?_; omega)) only [go_sem] at h) | (with_reducible refine And.intro (by first | omega | (simp only [lens]; omega)) ?_) | ((with_reducible refine And.intro ?_ ?_); · first | (intro x hx; subst hx; rfl) | (intro x; refine And.intro ?_ ?_ <;> (intros; subst_vars; rfl))) | fail
    try simp only [List.drop_succ_cons, List.drop_zero]
    refine LopsP.call rfl rfl rfl cE hp ⟨by simp, by simp [Lg.look], by simp⟩ 1000000 (by simp [-List.map_set, LS.clean, D.tks, D.tksL, tksU_ints, tksL_bool, tksL_bD, tksU_nat, inTok])
   | some δ =>
    dsimp only at h3
    obtain ⟨hδB, cE⟩ := hR.1 δ hx
    unfold uC at cE
    repeat' first | ((exfalso; omega)) | ((refine hK.callB rfl rfl rfl (cE) (by refine ⟨⟨?_, ?_, ?_, ?_, ?_⟩, ⟨?_, ?_, ?_, ?_, ?_⟩, ?_⟩ <;> simp [-List.map_set, LS.getBox, Lg.look, D.ids, D.idsL, idsL_bool, idsL_bD, LS.clean, D.puOk, D.pu, D.pu1, D.tks, D.tksL, tksU_ints, tksL_bool, tksL_bD, puOk_intsU, puOk_bool, puOk_bD, inTok]) ?_; simp (disch := (refine Om.mk ?_; omega)) only [go_sem])) | refine sw_seq ?_ | refine sw_block ?_ | refine sw_inBlock ?_ | refine sw_skip ?_ | refine sw_go 0 kp54 fun K hK => ?_ | refine sw_goT 0 kp54 9 (id := 7) (by kernel_rfl) fun K hK => ?_ | refine sw_goT 0 kp54 21 (id := 14) (by kernel_rfl) fun K hK => ?_ | refine fun (K : KT) (hK : KOk S 0 _ _ _ K) => ?_ | refine sw_goD kp54 (by kernel_rfl) fun K hK => ?_ | ((first | refine runL_go ?_ | refine runQ_go ?_ | refine sw_ret (ret0 ?_) | refine sw_ret ?_); simp (disch := (refine Om.mk ?_; omega)) only [go_sem, Try.results54]) | (refine hK.nil ?_; clear hK K; simp only [go_sem]) | ((first | refine runG_fork rfl rfl rfl rfl rfl ?_ ?_ | refine runQG_fork rfl rfl rfl rfl rfl ?_ ?_ | refine sw_cond rfl ?_ ?_) <;> intro h <;> try simp (disch := (refine Om.mk ?_; omega)) only [go_sem] at h) | refine hK.skp rfl rfl ?_ | refine sw_exit rfl ?_ | refine sw_loopEnd ?_ | refine hK.c0 rfl rfl rfl (cS) rfl rfl rfl ?_ | refine hK.c0 rfl rfl rfl (cT) rfl rfl rfl ?_ | (refine hK.fork rfl rfl rfl ?_ ?_ <;> intro h <;> try simp (disch := (refine Om.mk ?_; omega)) only [go_sem] at h) | (with_reducible refine And.intro (by first | omega | (simp only [lens]; omega)) ?_) | ((with_reducible refine And.intro ?_ ?_); · first | (intro x hx; subst hx; rfl) | (intro x; refine And.intro ?_ ?_ <;> (intros; subst_vars; rfl))) | fail
    all_goals exact ⟨(i + 1, δ), (by (refine covers_mk0 rfl rfl ?_ ?_ ?_ ?_ <;> simp (disch := (refine Om.mk ?_; omega)) only [go_sem] <;> (try omega))), ⟨⟨by omega, hδB⟩, h3⟩, by omega⟩
 ·rw [List.drop_of_length_le (by rw [pairsX_len]; omega)] at h3
  cases h3
 ·exact ⟨⟨by omega, hβ⟩, hl⟩
theorem equate_ok (rs : List Int) (g id : Nat) : ∀ f, EqOk rs (eqM rs g f) id
 | 0 => fun β a b _ _ _ => ⟨fun _ h => (by cases h), fun h => (by cases h)⟩
 | f + 1 => fun β a b hβ hA hB => by
  have ih := equate_ok rs g id f
  cases h1 : rootM β g a with
  | none => exact ⟨fun _ h => (by simp [eqM, h1] at h), fun h => (by simp [eqM, h1] at h)⟩
  | some a1 =>
   cases h2 : rootM β g b with
   | none => exact ⟨fun _ h => (by simp [eqM, h1, h2] at h), fun h => (by simp [eqM, h1, h2] at h)⟩
   | some b1 =>
    have hA1 := rootM_ok hβ h1 hA
    have hB1 := rootM_ok hβ h2 hB
    have e : eqM rs g (f + 1) β a b = eqB rs g (eqM rs g f) β a1 b1 := by simp [eqM, h1, h2]
    rw [e]
    unfold eqB
    by_cases k1 : hd a1 = hd b1 ∧ hd a1 < 0
    ·rw [if_pos k1]
     exact ⟨fun β' h => (by obtain rfl := Option.some.inj (Option.some.inj h); exact ⟨hβ, equateA_fc id rs g β hβ a b a1 b1 hA hB h1 h2 k1⟩), fun h => (by cases h)⟩
    rw [if_neg k1]
    by_cases k2 : hd b1 < 0 ∧ (0 ≤ hd a1 ∨ hd b1 < hd a1)
    ·rw [if_pos k2]
     unfold bindM
     by_cases k3 : 0 ≤ hd a1
     ·rw [if_pos k3]
      cases hq : occM β (hd b1) g a1 (List.replicate 48 false) with
      | none => exact ⟨fun _ h => (by cases h), fun h => (by cases h)⟩
      | some q =>
       obtain ⟨o, s⟩ := q
       cases o with
       | true => exact ⟨fun _ h => (by cases h), fun _ => equateS3_fc id rs g β hβ a b a1 b1 hA hB h1 h2 k1 k2 k3 s hq⟩
       | false => exact ⟨fun β' h => (by obtain rfl := Option.some.inj (Option.some.inj h); exact ⟨hβ.set _ hA1, equateS2_fc id rs g β hβ a b a1 b1 hA hB h1 h2 k1 k2 k3 s hq⟩), fun h => (by cases h)⟩
     ·rw [if_neg k3]
      exact ⟨fun β' h => (by obtain rfl := Option.some.inj (Option.some.inj h); exact ⟨hβ.set _ hA1, equateS1_fc id rs g β hβ a b a1 b1 hA hB h1 h2 k1 k2 (by omega)⟩), fun h => (by cases h)⟩
    rw [if_neg k2]
    by_cases k4 : hd a1 < 0
    ·rw [if_pos k4]
     unfold bindM
     by_cases k3 : 0 ≤ hd b1
     ·rw [if_pos k3]
      cases hq : occM β (hd a1) g b1 (List.replicate 48 false) with
      | none => exact ⟨fun _ h => (by cases h), fun h => (by cases h)⟩
      | some q =>
       obtain ⟨o, s⟩ := q
       cases o with
       | true => exact ⟨fun _ h => (by cases h), fun _ => equateC3_fc id rs g β hβ a b a1 b1 hA hB h1 h2 k1 k2 k4 k3 s hq⟩
       | false => exact ⟨fun β' h => (by obtain rfl := Option.some.inj (Option.some.inj h); exact ⟨hβ.set _ hB1, equateC2_fc id rs g β hβ a b a1 b1 hA hB h1 h2 k1 k2 k4 k3 s hq⟩), fun h => (by cases h)⟩
     ·rw [if_neg k3]
      exact ⟨fun β' h => (by obtain rfl := Option.some.inj (Option.some.inj h); exact ⟨hβ.set _ hB1, equateC1_fc id rs g β hβ a b a1 b1 hA hB h1 h2 k1 k2 k4 (by omega)⟩), fun h => (by cases h)⟩
    rw [if_neg k4]
    have k5 : 0 ≤ hd b1 := by omega
    by_cases k6 : hd a1 = hd b1
    ·rw [if_neg (by simpa using k6)]
     exact ⟨fun β' h => ⟨eqL_ok ih (fun p hp => pairsX_ok hA1 hB1 k6 p hp) hβ h, equateL_fc id rs g β hβ a b a1 b1 hA hB h1 h2 _ ih β' h k6 (by omega)⟩, fun h => equateM_fc id rs g β hβ a b a1 b1 hA hB h1 h2 _ ih h k6 (by omega)⟩
    ·rw [if_pos k6]
     exact ⟨fun _ h => (by cases h), fun _ => equateN_fc id rs g β hβ a b a1 b1 hA hB h1 h2 (by omega) k5 k6⟩
end Go.Proofs.Ytmogobaaophknaa
end
section
namespace Go.Proofs.Ytmogobaaophknaa
open Go Go.Lg
set_option linter.unusedSimpArgs false
set_option linter.unusedVariables false
abbrev Bnd := List (List Int)
def vx (n : Int) : Nat := (-1 - n).toNat
def linM (rs t : List Int) : List Int → Nat → Bnd → Bnd × Bool
 | [], _, g => (g, true)
 | n :: p, a, g => if t.length ≤ a then (g, false) else if 0 ≤ n then (if t.getD a default = n then linM rs t p (a + 1) g else (g, false))
   else if g.getD (vx n) default = [] then linM rs t p (a + (subS rs t a).length) (g.set (vx n) (subS rs t a))
   else if g.getD (vx n) default = subS rs t a then linM rs t p (a + (subS rs t a).length) g else (g, false)
theorem linM_len (rs t : List Int) : ∀ (p : List Int) (a : Nat) (g : Bnd), (linM rs t p a g).1.length = g.length
 | [], _, _ => rfl
 | n :: p, a, g => by
  have h1 := linM_len rs t p (a + 1) g
  have h2 := linM_len rs t p (a + (subS rs t a).length) (g.set (vx n) (subS rs t a))
  have h3 := linM_len rs t p (a + (subS rs t a).length) g
  rw [List.length_set] at h2
  simp only [linM]
  split
  ·rfl
  ·split
   ·split
    ·exact h1
    ·rfl
   ·split
    ·exact h2
    ·split
     ·exact h3
     ·rfl
end Go.Proofs.Ytmogobaaophknaa
end
section
namespace Go.Proofs.Ytmogobaaophknaa
open Go Go.Lg
set_option linter.unusedSimpArgs false
set_option linter.unusedVariables false
end Go.Proofs.Ytmogobaaophknaa
end
section
namespace Go.Proofs.Ytmogobaaophknaa
open Go Go.Lg
set_option linter.unusedSimpArgs false
set_option linter.unusedVariables false
set_option maxHeartbeats 4000000
attribute [local irreducible] SW runL runQ runG runQG FC Ret1
def tkN (u : List Int) : Tk := if u = [] then .nil else .any
def optD (u : List Int) : D := .sl (tkN u) (u.map (.int .i64))
attribute [go_sem] optD
theorem nilY_tkN (u : List Int) (K : D → Prop) : nilY .eql (tkN u) (u.map (.int .i64)) K = K (.bool (tst (u = []))) := by
 unfold tkN
 by_cases h : u = []
 ·subst h; simp [nilY, tst]
 ·rw [if_neg h, tst_false h]
  simp [nilY, h]
theorem take_full {α : Type} (xs : List α) (n : Nat) (h : Om (xs.length ≤ n)) : xs.take n = xs := List.take_of_length_le h.out
theorem putC_full (cs new : List D) (h : Om (cs.length = new.length)) : putC cs 0 new = new := by
 have h := h.out
 unfold putC
 split
 ·match cs, h with
  | [c], _ => rfl
 ·unfold putCells
  rw [List.take_zero, List.nil_append, Nat.zero_add, ← h, List.drop_length, List.append_nil]
theorem idsL_opt (g : List (List Int)) : D.idsL (g.map optD) = [] := by
 induction g with
 | nil => rfl
 | cons u g ih => simp [D.idsL, optD, D.ids]; exact ih
theorem tksL_opt (g : List (List Int)) : D.tksL (g.map optD) = [] := by
 induction g with
 | nil => rfl
 | cons u g ih =>
  simp only [List.map_cons, D.tksL, ih, optD, tkN]
  split <;> rfl
theorem all_opt (g : List (List Int)) : (g.map optD).all D.one = true := by
 rw [List.all_eq_true]
 intro d hd
 obtain ⟨u, _, rfl⟩ := List.mem_map.1 hd
 rfl
attribute [local go_sem] idsL_opt tksL_opt nilY_tkN take_full all_opt linM_len
theorem putC_opt (g : List (List Int)) (h : Om (g.length = 24)) : putC [D.sl .nil [], D.sl .nil [], D.sl .nil [], D.sl .nil [], D.sl .nil [], D.sl .nil [], D.sl .nil [], D.sl .nil [], D.sl .nil [], D.sl .nil [], D.sl .nil [], D.sl .nil [], D.sl .nil [], D.sl .nil [], D.sl .nil [], D.sl .nil [], D.sl .nil [], D.sl .nil [], D.sl .nil [], D.sl .nil [], D.sl .nil [], D.sl .nil [], D.sl .nil [], D.sl .nil []] 0 (g.map optD) = g.map optD := putC_full _ _ ⟨by rw [List.length_map, h.out]; rfl⟩
attribute [local go_sem] putC_opt
theorem flat_intsD (g : List (List Int)) : flat (g.map IntsD) = g.map IntsD := by
 induction g with
 | nil => rfl
 | cons u g ih => simp [flat] at ih ⊢; simp [D.cells, IntsD]; exact ih
theorem flatMap_intsD (g : List (List Int)) : List.flatMap D.cells (g.map IntsD) = g.map IntsD := flat_intsD g
attribute [local go_sem] flatMap_intsD
theorem argsS_len (rs t : List Int) (a : Nat) : (argsS rs t a).length = (arS rs (t.getD a default)).toNat := begS_length _ _ _ _
theorem argsS_get (rs t : List Int) (a j : Nat) (h : j < (arS rs (t.getD a default)).toNat) : (argsS rs t a).getD j default = nthB rs t (a + 1) j := begS_get _ _ _ _ _ h
end Go.Proofs.Ytmogobaaophknaa
end
section
namespace Go.Proofs.Ytmogobaaophknaa
open Go Go.Lg
set_option linter.unusedSimpArgs false
set_option linter.unusedVariables false
set_option maxHeartbeats 1000000
theorem vIx_inj {x y : Int} (hx : x < 0) (hy : y < 0) (h : vIx x = vIx y) : x = y := by unfold vIx at h; omega
theorem subX_drop {rs t : List Int} (h : XT rs t) {a : Nat} (ha : a < t.length) : t.drop a = subX rs t a ++ t.drop (endS rs (phiL t) a).toNat := by
 have he := endS_ge h.1 (a := a) (by rw [phiL_len]; exact ha)
 rw [phiL_len] at he
 unfold subX
 conv => lhs; rw [← List.take_append_drop (endS rs (phiL t) a).toNat t]
 rw [List.drop_append_of_le_length (by simp; omega)]
theorem flat_pre {rs t : List Int} (h : XT rs t) : ∀ j ≤ (argsS rs (phiL t) 0).length, t.drop 1 = ((List.range j).map fun k => subX rs t ((argsS rs (phiL t) 0).getD k default)).flatten ++ t.drop (nthB rs (phiL t) 1 j) := by
 intro j
 induction j with
 | zero => intro _; simp [nthB]
 | succ j ih =>
  intro hj
  have hl := h.len
  have hn : j < (arS rs ((phiL t).getD 0 default)).toNat := by rw [argsS_len] at hj; omega
  have hlt := nthB_lt h.1 (a := 0) (by rw [phiL_len]; omega) hn
  rw [Nat.zero_add, phiL_len] at hlt
  rw [List.range_succ, List.map_append, List.flatten_append, ih (by omega), List.append_assoc]
  congr 1
  simp only [List.map_cons, List.map_nil, List.flatten_cons, List.flatten_nil, List.append_nil]
  rw [argsS_get rs (phiL t) 0 j hn, Nat.zero_add]
  exact subX_drop h hlt.2
theorem fst_flat (rs a b : List Int) : (pairsX rs a b).map (·.1) = (List.range (argsS rs (phiL a) 0).length).map fun k => subX rs a ((argsS rs (phiL a) 0).getD k default) := by simp [pairsX]
theorem snd_flat (rs a b : List Int) : (pairsX rs a b).map (·.2) = (List.range (argsS rs (phiL a) 0).length).map fun k => subX rs b ((argsS rs (phiL b) 0).getD k default) := by simp [pairsX]
end Go.Proofs.Ytmogobaaophknaa
end
