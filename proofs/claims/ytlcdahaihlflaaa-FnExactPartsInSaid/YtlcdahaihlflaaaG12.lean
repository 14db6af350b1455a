/-
  P26, U06, U07, P26i, P27, one behind the other.
-/
import Derived.Test.YtlcdahaihlflaaaG10
import Derived.Test.YtlcdahaihlflaaaG9
import Derived.Test.YtlcdahaihlflaaaG11
import Derived.Test.YtlcdahaihlflaaaG8
import Derived.Recover
import Derived.Laws.Pointers
import Derived.Laws.NewBlocks
import Derived.Test.YtlcdahaihlflaaaLgK14
import Derived.Test.YtlcdahaihlflaaaLgK7
import Derived.Test.YtlcdahaihlflaaaLgK13
section
namespace Go.Proofs.Ytlcdahaihlflaaa
open Go Go.Lg
set_option linter.unusedSimpArgs false
set_option linter.unusedVariables false
set_option maxHeartbeats 4000000
attribute [local irreducible] SW runL runQ runG runQG FC Ret1 toF redoL bD
def ConnP (x : SystemT) (p q : DepPairT) : Prop := p.r.getD 0 default = q.l.getD 0 default ∧ ((capL x p.r 60 0 0).2 ≤ 24 → ConnU x.sig (capL x p.r 60 0 0).1 q.l)
theorem conn_head {x : SystemT} {p q : DepPairT} (h : ¬ p.r.getD 0 default = q.l.getD 0 default) : tst (ConnP x p q) = false := tst_false fun e => h e.1
theorem conn_many {x : SystemT} {p q : DepPairT} (h : p.r.getD 0 default = q.l.getD 0 default) (hc : ¬ (capL x p.r 60 0 0).2 ≤ 24) : tst (ConnP x p q) = true := tst_true ⟨h, fun e => absurd e hc⟩
theorem conn_few {x : SystemT} {p q : DepPairT} (h : p.r.getD 0 default = q.l.getD 0 default) (hc : (capL x p.r 60 0 0).2 ≤ 24) {r : Bool} (hr : r = true ↔ ConnU x.sig (capL x p.r 60 0 0).1 q.l) : tst (ConnP x p q) = r := by
 cases r with
 | true => exact tst_true ⟨h, fun _ => hr.1 rfl⟩
 | false => exact tst_false fun e => by simpa using hr.2 (e.2 hc)
theorem rep48 : (List.replicate (Int.toNat 48) [D.sl Tk.nil []]).flatten = b0.map bD := by
 rw [List.flatten_replicate_singleton]
 unfold b0
 rw [List.map_replicate, bD_nil]
 rfl
attribute [local go_sem] rep48 idsL_bD tksL_bD puL_bDs
def kp113 : List (Nat × List Nat) := [(0, [3, 4, 5]), (1, [3, 4, 5, 7, 8]), (2, [3, 5, 7, 8, 25]), (3, [6]), (4, [3, 5, 7, 27]), (5, [6]), (6, [3, 5, 7, 9]), (7, [6])]
attribute [go_sem] kp113
theorem l17Connected_fc (x : SystemT) (hx : SystemOkP x) (p q : DepPairT) (hp : PrOk x.sig p) (hq : PrOk x.sig q) : FC S 113 [] [] [] [SystemD x, DepPairD p, DepPairD q] (.bool (tst (ConnP x p q))) [] [] := by
 have cC := cappedOf_fc x p.r hp.1.2 hp.2.2 hx
 have hpl := hp.1.2.2.1
 have hql := hq.1.1.2.1
 have cW := l11Away_fc q.l (by omega) hq.1.1.ge
 by_cases hh : p.r.getD 0 default = q.l.getD 0 default
 ·by_cases hc : (capL x p.r 60 0 0).2 ≤ 24
  ·have hX := XT.of (cap_ok hp.1.2 hc)
   obtain ⟨n, r, hr, hri⟩ := conn_spec hX hq.1.1
   rw [if_pos hc, tst_true hc] at cC
   rw [conn_few hh hc hri]
   have cM := l11Meet_fc x.sig b0 (b0_ok _) b0_acy n _ (awayL q.l) hX (XT.away hq.1.1) r hr
   generalize (capL x p.r 60 0 0).1 = out at *
   refine fc_body Try.func113 rfl (by kernel_rfl) (by simp [Try.f113]) fun B => ?_
   simp only [Try.ntmps113, enumD, lst0, Nat.reduceAdd]
   repeat' first | ((exfalso; omega)) | ((refine hK.callB rfl rfl rfl (cM) (by refine ⟨⟨?_, ?_, ?_, ?_, ?_⟩, ⟨?_, ?_, ?_, ?_, ?_⟩, ?_⟩ <;> simp [-List.map_set, LS.getBox, Lg.look, D.ids, D.idsL, idsL_bool, idsL_bD, LS.clean, D.puOk, D.pu, D.pu1, D.tks, D.tksL, tksU_ints, tksL_bool, tksL_bD, puOk_intsU, puOk_bool, puOk_bD, inTok]) ?_; simp (disch := (refine Om.mk ?_; omega)) only [go_sem])) | refine sw_seq ?_ | refine sw_skip ?_ | refine sw_go 1000 kp113 fun K hK => ?_ | refine sw_goT 1000 kp113 7 (id := 7) (by kernel_rfl) fun K hK => ?_ | refine fun (K : KT) (hK : KOk S 1000 _ _ _ K) => ?_ | refine sw_goD kp113 (by kernel_rfl) fun K hK => ?_ | ((first | refine runL_go ?_ | refine runQ_go ?_ | refine sw_ret (ret0 ?_) | refine sw_ret ?_); simp (disch := (refine Om.mk ?_; omega)) only [go_sem, Try.results113]) | (refine hK.nil ?_; clear hK K; simp only [go_sem]) | ((first | refine sw_cond rfl ?_ ?_) <;> intro h <;> try simp (disch := (refine Om.mk ?_; omega)) only [go_sem] at h) | refine sw_loopEnd ?_ | refine hK.c0 rfl rfl rfl (cC) rfl rfl rfl ?_ | refine hK.c0 rfl rfl rfl (cW) rfl rfl rfl ?_ | (with_reducible refine And.intro (by first | omega | (simp only [lens]; omega)) ?_) | ((with_reducible refine And.intro ?_ ?_); · first | (intro x hx; subst hx; rfl) | (intro x; refine And.intro ?_ ?_ <;> (intros; subst_vars; rfl))) | fail
   all_goals trace_state
  ·rw [conn_many hh hc]
   rw [if_neg hc, tst_false hc] at cC
   refine fc_body Try.func113 rfl (by kernel_rfl) (by simp [Try.f113]) fun B => ?_
   simp only [Try.ntmps113, enumD, lst0, Nat.reduceAdd]
   repeat' first | ((exfalso; omega)) | refine sw_seq ?_ | refine sw_skip ?_ | refine sw_go 1000 kp113 fun K hK => ?_ | refine fun (K : KT) (hK : KOk S 1000 _ _ _ K) => ?_ | refine sw_goD kp113 (by kernel_rfl) fun K hK => ?_ | ((first | refine runL_go ?_ | refine runQ_go ?_ | refine sw_ret (ret0 ?_) | refine sw_ret ?_); simp (disch := (refine Om.mk ?_; omega)) only [go_sem, Try.results113]) | (refine hK.nil ?_; clear hK K; simp only [go_sem]) | ((first | refine sw_cond rfl ?_ ?_) <;> intro h <;> try simp (disch := (refine Om.mk ?_; omega)) only [go_sem] at h) | refine sw_loopEnd ?_ | refine hK.c0 rfl rfl rfl (cC) rfl rfl rfl ?_ | (with_reducible refine And.intro (by first | omega | (simp only [lens]; omega)) ?_) | ((with_reducible refine And.intro ?_ ?_); · first | (intro x hx; subst hx; rfl) | (intro x; refine And.intro ?_ ?_ <;> (intros; subst_vars; rfl))) | fail
 ·rw [conn_head hh]
  generalize hb : tst ((capL x p.r 60 0 0).2 ≤ 24) = b at *
  generalize (if (capL x p.r 60 0 0).2 ≤ 24 then (capL x p.r 60 0 0).1 else []) = zs at *
  refine fc_body Try.func113 rfl (by kernel_rfl) (by simp [Try.f113]) fun B => ?_
  simp only [Try.ntmps113, enumD, lst0, Nat.reduceAdd]
  repeat' first | ((exfalso; omega)) | refine sw_seq ?_ | refine sw_skip ?_ | refine sw_go 1000 kp113 fun K hK => ?_ | refine fun (K : KT) (hK : KOk S 1000 _ _ _ K) => ?_ | refine sw_goD kp113 (by kernel_rfl) fun K hK => ?_ | ((first | refine runL_go ?_ | refine runQ_go ?_ | refine sw_ret (ret0 ?_) | refine sw_ret ?_); simp (disch := (refine Om.mk ?_; omega)) only [go_sem, Try.results113]) | (refine hK.nil ?_; clear hK K; simp only [go_sem]) | ((first | refine sw_cond rfl ?_ ?_) <;> intro h <;> try simp (disch := (refine Om.mk ?_; omega)) only [go_sem] at h) | refine sw_loopEnd ?_ | refine hK.c0 rfl rfl rfl (cC) rfl rfl rfl ?_ | (with_reducible refine And.intro (by first | omega | (simp only [lens]; omega)) ?_) | ((with_reducible refine And.intro ?_ ?_); · first | (intro x hx; subst hx; rfl) | (intro x; refine And.intro ?_ ?_ <;> (intros; subst_vars; rfl))) | fail
end Go.Proofs.Ytlcdahaihlflaaa
end
section
namespace Go.Proofs.Ytlcdahaihlflaaa
open Go Go.Lg
set_option linter.unusedSimpArgs false
set_option linter.unusedVariables false
set_option maxHeartbeats 4000000
theorem solve1_idle (p : Addr) (w : World) : CallsD Try.prog 87 #[.pointer (some p)] .returning w fun e u' w' => e = .returned (.tuple #[]) ∧ u' = .returning ∧ w' = w := by
 refine callsD_of_wpS Try.func87 rfl fun c₀ cs hu => ?_
 apply wpS_seq
 apply wpS_region
 simp [wpOpsS, go_sem, recoverD, hu, Try.ntmps87, Exit.thenS]
 apply wpS_seq
 apply wpS_region
 simp [wpOpsS, go_sem, recoverD, hu, Try.ntmps87, Exit.thenS]
 refine wpS_cond (t := false) (by simp [Act.eval, Array.replicate]) ?_
 simp only [Bool.false_eq_true, if_false]
 refine wpS_of_wp (wp_skip ?_)
 cases c₀
 simp_all [bodyPostS, results, Try.results87]
theorem solve1_pan (p : Addr) (x : Bool) (w : World) (hc : w.cell? p = some (.bool x)) (hz : w.frozen? p = false) : CallsD Try.prog 87 #[.pointer (some p)] (.panicking (chainE 125)) w fun e u' w' =>
  e = .returned (.tuple #[]) ∧ u' = .panicking [{ v := .iface 125 (.agg #[]), recovered := true }] ∧ w' = (w.alloc (.cells #[] 125)).setCell p (.bool false) := by
 refine callsD_of_wpS Try.func87 rfl fun c₀ cs hu => ?_
 unfold chainE at hu
 have hta : ∀ w, (Instr.typeAssert (.iface 125 (.agg #[])) 20 125 true).run Try.prog w = .ok (.tuple #[.agg #[], .bool true]) w := fun w => by kernel_rfl
 apply wpS_seq
 apply wpS_region
 simp [wpOpsS, go_sem, recoverD, hu, Try.ntmps87, Exit.thenS]
 apply wpS_seq
 apply wpS_region
 simp [wpOpsS, go_sem, recoverD, hu, Try.ntmps87, Exit.thenS]
 refine wpS_cond (t := true) (by simp [Act.eval, Array.replicate]) ?_
 simp only [if_true]
 apply wpS_seq
 apply wpS_seq
 apply wpS_region
 simp [wpOpsS, go_sem, recoverD, hu, Try.ntmps87, Exit.thenS, hta]
 have hb : p.block < w.heap.size := World.block_lt_of_cell? w p hc
 have hc2 : (w.alloc (.cells #[] 125)).cell? p = some (.bool x) := (World.cell?_alloc_old w _ p (Nat.ne_of_lt hb)).trans hc
 have hz2 : (w.alloc (.cells #[] 125)).frozen? p = false := (World.frozen?_alloc_old w _ p (Nat.ne_of_lt hb)).trans hz
 apply wpS_seq
 apply wpS_region
 simp [wpOpsS, go_sem, recoverD, hu, Try.ntmps87, Exit.thenS]
 refine wpS_cond (t := false) (by simp [Act.eval, Array.replicate]) ?_
 simp only [Bool.false_eq_true, if_false]
 refine wpS_of_wp (wp_skip ?_)
 simp only [Exit.thenS]
 apply wpS_region
 simp [wpOpsS, go_sem, hc2, hz2, bodyPostS, results, Try.results87, Try.ntmps87]
end Go.Proofs.Ytlcdahaihlflaaa
end
section
namespace Go.Proofs.Ytlcdahaihlflaaa
open Go Go.Lg
set_option linter.unusedSimpArgs false
set_option linter.unusedVariables false
set_option maxHeartbeats 4000000
attribute [local irreducible] SW runL runQ runG runQG FC Ret1 bD
def kp46 : List (Nat × List Nat) := [(0, [0, 1, 2, 6]), (1, [0, 1, 2, 6]), (2, [6]), (3, [6])]
attribute [go_sem] kp46
theorem solve_yes (id : Nat) (rs : List Int) (g f : Nat) (β β' : Bds) (hβ : BOK rs β) (a b : List Int) (hA : XT rs a) (hB : XT rs b) (he : eqM rs g f β a b = some (some β')) : FC S 46 [] [(id + 1000, uC rs β)] [] [.box (id + 1000) 0, .sl .any (a.map (.int .i64)), .sl .any (b.map (.int .i64))] (.bool true) [(id + 1000, uC rs β')] [] := by
 obtain ⟨_, cE⟩ := (equate_ok rs g id f β a b hβ hA hB).1 β' he
 unfold uC at *
 unfold FC
 refine ⟨⟨Try.f46, Try.func46, by kernel_rfl, rfl⟩, fun w G vals hs => ?_⟩
 refine calls_of_wp_defers Try.func46 rfl ?_
 have hs0 := start_sim (n := Try.f46.ntmps) hs (by simp [Try.f46])
 simp only [Try.ntmps46, enumD, Nat.zero_add, Nat.reduceAdd, List.map_cons, List.map_nil] at hs0 ⊢
 refine wp_seq (regW (L2 := ⟨12, [(0, .box (id + 1000) 0), (1, .sl .any (a.map (.int .i64))), (2, .sl .any (b.map (.int .i64))), (6, .box 6 0)], [(id + 1000, D.sl .any (rs.map (.int .i64)) :: β.map bD), (6, [.bool false])], [], [], [id + 1000]⟩) hs0 ?_ fun G1 a1 w1 hs1 => ?_)
 ·refine lops_go 0 ?_
  refine fun (K : List Oper → LS → Prop) (hK : KOk S 0 _ _ _ K) => ?_
  simp only [go_sem]
  repeat' first | refine sw_seq ?_ | refine sw_skip ?_ | refine sw_go 0 kp46 fun K hK => ?_ | refine fun (K : KT) (hK : KOk S 0 _ _ _ K) => ?_ | ((first | refine runL_go ?_ | refine sw_ret (ret0 ?_) | refine sw_ret ?_); simp (disch := (refine Om.mk ?_; omega)) only [go_sem, Try.results46]) | (refine hK.nil ?_; clear hK K; simp only [go_sem]) | refine sw_loopEnd ?_ | (with_reducible refine And.intro (by first | omega | (simp only [lens]; omega)) ?_) | fail
  refine hK.nil ?_
  (refine covers_mk0 rfl rfl ?_ ?_ ?_ ?_ <;> simp (disch := (refine Om.mk ?_; omega)) only [go_sem] <;> (try omega))
 refine wp_seq (regA 1 (L1 := ⟨12, [(0, .box (id + 1000) 0), (1, .sl .any (a.map (.int .i64))), (2, .sl .any (b.map (.int .i64))), (6, .box 6 0), (7, .fn 87 [.box 6 0])], [(id + 1000, D.sl .any (rs.map (.int .i64)) :: β.map bD), (6, [.bool false])], [], [], [id + 1000]⟩) hs1 ?_ fun G2 a2 w2 hs2 => ?_)
 ·refine lops_go 0 ?_
  refine fun (K : List Oper → LS → Prop) (hK : KOk S 0 _ _ _ K) => ?_
  simp only [go_sem]
  repeat' first | refine sw_seq ?_ | refine sw_skip ?_ | refine sw_go 0 kp46 fun K hK => ?_ | refine fun (K : KT) (hK : KOk S 0 _ _ _ K) => ?_ | ((first | refine runL_go ?_ | refine sw_ret (ret0 ?_) | refine sw_ret ?_); simp (disch := (refine Om.mk ?_; omega)) only [go_sem, Try.results46]) | (refine hK.nil ?_; clear hK K; simp only [go_sem]) | refine sw_loopEnd ?_ | (with_reducible refine And.intro (by first | omega | (simp only [lens]; omega)) ?_) | fail
  refine hK.nil ?_
  (refine covers_mk0 rfl rfl ?_ ?_ ?_ ?_ <;> simp (disch := (refine Om.mk ?_; omega)) only [go_sem] <;> (try omega))
 obtain ⟨v7, hv7, hr7⟩ := hs2.env 7 _ rfl
 cases hr7 with
 | @fn _ _ vl hl hr =>
 obtain ⟨u6, rfl⟩ : ∃ u, vl = [u] := by
  match vl, hl with
  | [u], _ => exact ⟨u, rfl⟩
 have h6 := hr 0 (.box 6 0) u6 rfl rfl
 cases h6 with
 | @box _ _ g0 hb =>
 simp only [List.drop_succ_cons, List.drop_zero]
 refine wpList_step fun N hN => ?_
 rw [if_pos (by simp [Region.wanted])]
 unfold Oper.wp
 have hrun : ∀ (ty : TypeId) (pos : String) (aft : Array Go.Edge), (execOp a2.eval ⟨none, .defer ⟨.value (.tmp 7), #[], #[]⟩, ty, pos, aft, none⟩).run S.P w2 = .ok (.defer { target := .fn (.func 87) #[.pointer (some ⟨g0, 0, none⟩)], args := #[] }) w2 := fun _ _ _ => by
  simp [execOp, Act.eval, hv7, resolve, Deferred.ofValue]
 rw [hrun, Oper.upon_defer]
 refine hN _ _ (wpList_nil ?_)
 rw [hs2.defers]
 have hno : ∀ (R : Ending → World → Prop), (∀ w, ¬ R .outgrown w) → ∀ a w, ¬ bodyPostD S.P Try.f46 R .outgrown a w := fun R h a w hx => h w hx
 refine wp_seq (regD (L2 := ⟨12, [(6, .box 6 0)], [(id + 1000, D.sl .any (rs.map (.int .i64)) :: β'.map bD), (6, [.bool false])], [], [], [id + 1000]⟩) hs2 (fun a w hx => by obtain ⟨v, _, h, _⟩ := hx; cases h) ?_ fun G3 a3 w3 hs3 => ?_)
 ·refine lops_go 0 ?_
  refine fun (K : List Oper → LS → Prop) (hK : KOk S 0 _ _ _ K) => ?_
  simp only [go_sem]
  repeat' first | ((refine hK.callB rfl rfl rfl (cE) (by refine ⟨⟨?_, ?_, ?_, ?_, ?_⟩, ⟨?_, ?_, ?_, ?_, ?_⟩, ?_⟩ <;> simp [-List.map_set, LS.getBox, Lg.look, D.ids, D.idsL, idsL_bool, idsL_bD, LS.clean, D.puOk, D.pu, D.pu1, D.tks, D.tksL, tksU_ints, tksL_bool, tksL_bD, puOk_intsU, puOk_bool, puOk_bD, inTok]) ?_; simp (disch := (refine Om.mk ?_; omega)) only [go_sem])) | refine sw_seq ?_ | refine sw_skip ?_ | refine sw_go 0 kp46 fun K hK => ?_ | refine fun (K : KT) (hK : KOk S 0 _ _ _ K) => ?_ | ((first | refine runL_go ?_ | refine sw_ret (ret0 ?_) | refine sw_ret ?_); simp (disch := (refine Om.mk ?_; omega)) only [go_sem, Try.results46]) | (refine hK.nil ?_; clear hK K; simp only [go_sem]) | refine sw_loopEnd ?_ | (with_reducible refine And.intro (by first | omega | (simp only [lens]; omega)) ?_) | fail
  refine hK.nil ?_
  (refine covers_mk0 rfl rfl ?_ ?_ ?_ ?_ <;> simp (disch := (refine Om.mk ?_; omega)) only [go_sem] <;> (try omega))
 refine wp_seq (regD (L2 := ⟨12, [(6, .box 6 0)], [(id + 1000, D.sl .any (rs.map (.int .i64)) :: β'.map bD), (6, [.bool true])], [], [], [id + 1000]⟩) hs3 (fun a w hx => by obtain ⟨v, _, h, _⟩ := hx; cases h) ?_ fun G4 a4 w4 hs4 => ?_)
 ·refine lops_go 0 ?_
  refine fun (K : List Oper → LS → Prop) (hK : KOk S 0 _ _ _ K) => ?_
  simp only [go_sem]
  repeat' first | refine sw_seq ?_ | refine sw_skip ?_ | refine sw_go 0 kp46 fun K hK => ?_ | refine fun (K : KT) (hK : KOk S 0 _ _ _ K) => ?_ | ((first | refine runL_go ?_ | refine sw_ret (ret0 ?_) | refine sw_ret ?_); simp (disch := (refine Om.mk ?_; omega)) only [go_sem, Try.results46]) | (refine hK.nil ?_; clear hK K; simp only [go_sem]) | refine sw_loopEnd ?_ | (with_reducible refine And.intro (by first | omega | (simp only [lens]; omega)) ?_) | fail
  refine hK.nil ?_
  (refine covers_mk0 rfl rfl ?_ ?_ ?_ ?_ <;> simp (disch := (refine Om.mk ?_; omega)) only [go_sem] <;> (try omega))
 have hEn : Lg.Enters S.P 87 := ⟨Try.f87, Try.func87, by kernel_rfl, rfl⟩
 refine wp_ret ?_
 refine leaves_cons (f := 87) (args := #[.pointer (some ⟨g0, 0, none⟩)]) (by simp) (by simp [invoke, enter_run hEn]) ?_
 refine (solve1_idle ⟨g0, 0, none⟩ w4).mono ?_
 rintro e u' w' ⟨rfl, rfl, rfl⟩
 have hRet : Ret S Try.f46.results.toList (.bool true) [(id + 1000, D.sl .any (rs.map (.int .i64)) :: β'.map bD)] ⟨12, [(6, .box 6 0)], [(id + 1000, D.sl .any (rs.map (.int .i64)) :: β'.map bD), (6, [.bool true])], [], [], [id + 1000]⟩ := by
  rw [Try.results46]
  refine ret0 ?_
  simp only [go_sem]
  all_goals trace_state
 obtain ⟨v, hrn, G5, hE⟩ := ret_end hs.fixed hs4 hRet
 exact ⟨v, hrn, v, G5, rfl, hE⟩
theorem solve_no (id : Nat) (rs : List Int) (g f : Nat) (β : Bds) (hβ : BOK rs β) (a b : List Int) (hA : XT rs a) (hB : XT rs b) (he : eqM rs g f β a b = some none) : FC S 46 [] [(id + 1000, uC rs β)] [] [.box (id + 1000) 0, .sl .any (a.map (.int .i64)), .sl .any (b.map (.int .i64))] (.bool false) [] [] := by
 have cX := (equate_ok rs g id f β a b hβ hA hB).2 he
 unfold uC at *
 unfold FC
 refine ⟨⟨Try.f46, Try.func46, by kernel_rfl, rfl⟩, fun w G vals hs => ?_⟩
 refine calls_of_wp_defers Try.func46 rfl ?_
 have hs0 := start_sim (n := Try.f46.ntmps) hs (by simp [Try.f46])
 simp only [Try.ntmps46, enumD, Nat.zero_add, Nat.reduceAdd, List.map_cons, List.map_nil] at hs0 ⊢
 refine wp_seq (regW (L2 := ⟨12, [(0, .box (id + 1000) 0), (1, .sl .any (a.map (.int .i64))), (2, .sl .any (b.map (.int .i64))), (6, .box 6 0)], [(id + 1000, D.sl .any (rs.map (.int .i64)) :: β.map bD), (6, [.bool false])], [], [], [id + 1000]⟩) hs0 ?_ fun G1 a1 w1 hs1 => ?_)
 ·refine lops_go 0 ?_
  refine fun (K : List Oper → LS → Prop) (hK : KOk S 0 _ _ _ K) => ?_
  simp only [go_sem]
  repeat' first | refine sw_seq ?_ | refine sw_skip ?_ | refine sw_go 0 kp46 fun K hK => ?_ | refine fun (K : KT) (hK : KOk S 0 _ _ _ K) => ?_ | ((first | refine runL_go ?_ | refine sw_ret (ret0 ?_) | refine sw_ret ?_); simp (disch := (refine Om.mk ?_; omega)) only [go_sem, Try.results46]) | (refine hK.nil ?_; clear hK K; simp only [go_sem]) | refine sw_loopEnd ?_ | (with_reducible refine And.intro (by first | omega | (simp only [lens]; omega)) ?_) | fail
  refine hK.nil ?_
  (refine covers_mk0 rfl rfl ?_ ?_ ?_ ?_ <;> simp (disch := (refine Om.mk ?_; omega)) only [go_sem] <;> (try omega))
 refine wp_seq (regA 1 (L1 := ⟨12, [(0, .box (id + 1000) 0), (1, .sl .any (a.map (.int .i64))), (2, .sl .any (b.map (.int .i64))), (6, .box 6 0), (7, .fn 87 [.box 6 0])], [(id + 1000, D.sl .any (rs.map (.int .i64)) :: β.map bD), (6, [.bool false])], [], [], [id + 1000]⟩) hs1 ?_ fun G2 a2 w2 hs2 => ?_)
 ·refine lops_go 0 ?_
  refine fun (K : List Oper → LS → Prop) (hK : KOk S 0 _ _ _ K) => ?_
  simp only [go_sem]
  repeat' first | refine sw_seq ?_ | refine sw_skip ?_ | refine sw_go 0 kp46 fun K hK => ?_ | refine fun (K : KT) (hK : KOk S 0 _ _ _ K) => ?_ | ((first | refine runL_go ?_ | refine sw_ret (ret0 ?_) | refine sw_ret ?_); simp (disch := (refine Om.mk ?_; omega)) only [go_sem, Try.results46]) | (refine hK.nil ?_; clear hK K; simp only [go_sem]) | refine sw_loopEnd ?_ | (with_reducible refine And.intro (by first | omega | (simp only [lens]; omega)) ?_) | fail
  refine hK.nil ?_
  (refine covers_mk0 rfl rfl ?_ ?_ ?_ ?_ <;> simp (disch := (refine Om.mk ?_; omega)) only [go_sem] <;> (try omega))
 obtain ⟨v7, hv7, hr7⟩ := hs2.env 7 _ rfl
 cases hr7 with
 | @fn _ _ vl hl hr =>
 obtain ⟨u6, rfl⟩ : ∃ u, vl = [u] := by
  match vl, hl with
  | [u], _ => exact ⟨u, rfl⟩
 have h6 := hr 0 (.box 6 0) u6 rfl rfl
 cases h6 with
 | @box _ _ g0 hb =>
 simp only [List.drop_succ_cons, List.drop_zero]
 refine wpList_step fun N hN => ?_
 rw [if_pos (by simp [Region.wanted])]
 unfold Oper.wp
 have hrun : ∀ (ty : TypeId) (pos : String) (aft : Array Go.Edge), (execOp a2.eval ⟨none, .defer ⟨.value (.tmp 7), #[], #[]⟩, ty, pos, aft, none⟩).run S.P w2 = .ok (.defer { target := .fn (.func 87) #[.pointer (some ⟨g0, 0, none⟩)], args := #[] }) w2 := fun _ _ _ => by
  simp [execOp, Act.eval, hv7, resolve, Deferred.ofValue]
 rw [hrun, Oper.upon_defer]
 refine hN _ _ (wpList_nil ?_)
 rw [hs2.defers]
 have hEn : Lg.Enters S.P 87 := ⟨Try.f87, Try.func87, by kernel_rfl, rfl⟩
 refine wp_seq (regD0 hs2.defers (fun a w hx => by obtain ⟨v, _, h, _⟩ := hx; cases h) ?_)
 refine move_step (move_step (move_step ?_))
 have hs3a := hs2.put (t := 8) (by show 8 < 12; decide) (eval_sound hs2 (x := .tmp 0) (d := .box (id + 1000) 0) rfl)
 have hs3b := hs3a.put (t := 9) (by show 9 < 12; decide) (eval_sound hs3a (x := .tmp 1) (d := .sl .any (a.map (.int .i64))) rfl)
 have hs3 := hs3b.put (t := 10) (by show 10 < 12; decide) (eval_sound hs3b (x := .tmp 2) (d := .sl .any (b.map (.int .i64))) rfl)
 refine wpList_callX hs3 rfl rfl rfl cX ⟨by simp, by simp [Lg.look, LS.put], by simp⟩ 1000000 (by simp [-List.map_set, LS.put, setA, LS.clean, D.tks, D.tksL, tksU_ints, tksL_bool, tksL_bD, tksU_nat, inTok]) fun G4 w4 hs4 => ⟨by simp only [put_defers]; exact hs2.defers, ?_⟩
 refine leaves_cons (f := 87) (args := #[.pointer (some ⟨g0, 0, none⟩)]) (by simp) (by simp [invoke, enter_run hEn]) ?_
 have hs5 := hs4.less (L' := ⟨12, [(6, .box 6 0)], [(6, [.bool false])], [], [], [id + 1000]⟩) (by (refine covers_mk0 rfl rfl ?_ ?_ ?_ ?_ <;> simp (disch := (refine Om.mk ?_; omega)) only [go_sem] <;> (try omega)))
 obtain ⟨y, hy, hry⟩ := hs2.env 6 (.box 6 0) rfl
 cases hry with
 | @box _ _ g2 hb2 =>
 obtain rfl : g0 = g2 := Option.some.inj (hb.symm.trans hb2)
 obtain ⟨x6, hx6, hr6⟩ := hs5.env 6 (.box 6 0) rfl
 have hx : x6 = .pointer (some ⟨g0, 0, none⟩) := by
  have h1 : (((a2.put (some 8) (a2.eval (.tmp 0))).put (some 9) ((a2.put (some 8) (a2.eval (.tmp 0))).eval (.tmp 1))).put (some 10) (((a2.put (some 8) (a2.eval (.tmp 0))).put (some 9) ((a2.put (some 8) (a2.eval (.tmp 0))).eval (.tmp 1))).eval (.tmp 2))).tmps[6]? = a2.tmps[6]? := by
   simp [Act.put, Array.getElem?_setIfInBounds]
  rw [h1, hy] at hx6
  exact (Option.some.inj hx6).symm
 subst hx
 cases hr6 with
 | box hb4 =>
 obtain ⟨g1, k1, ⟨vs, e, e1, e2, e3⟩, k3, k4⟩ := hs5.W.boxes 6 [.bool false] rfl
 obtain rfl : g0 = g1 := Option.some.inj (hb4.symm.trans k1)
 have hv0 : vs[0]? = some (.bool false) := by
  have hlt : 0 < vs.size := by simp at e2; omega
  have := e3 0 (.bool false) vs[0] rfl (by simp [hlt])
  generalize hvs : vs[0] = v at this
  cases this
  simp [hlt, hvs]
 have hc : w4.cell? ⟨g0, 0, none⟩ = some (.bool false) := by
  simp [World.cell?, e1, hv0]
 have hz : w4.frozen? ⟨g0, 0, none⟩ = false := by
  simp [World.frozen?, e1]
 refine (solve1_pan ⟨g0, 0, none⟩ false w4 hc hz).mono ?_
 rintro e' u' w' ⟨rfl, rfl, rfl⟩
 have hs6 := alloc_sim hs5 (.cells #[] 125) 0
 obtain ⟨g5, w5, q1, q2, hs7⟩ := store_sim hs6 (id := 6) (off := 0) (cs := [.bool false]) (new := [.bool false]) (vl := [.bool false]) rfl (by simp) rfl (fun j d v hd hv => by
  match j, hd, hv with
  | 0, hd, hv =>
   simp at hd hv
   subst hd; subst hv
   exact .bool) (by simp [Value.oneCell'])
 have hg5 : g0 = g5 := Option.some.inj (k1.symm.trans q1)
 subst hg5
 have hw5 : w5 = (w4.alloc (.cells #[] 125)).setCell ⟨g0, 0, none⟩ (.bool false) := by
  have h1 := q2 S.P
  have hblk : g0 < w4.heap.size := World.block_lt_of_cell? w4 ⟨g0, 0, none⟩ hc
  have hc2 : (w4.alloc (.cells #[] 125)).cell? ⟨g0, 0, none⟩ = some (.bool false) := (World.cell?_alloc_old w4 _ ⟨g0, 0, none⟩ (Nat.ne_of_lt hblk)).trans hc
  have hz2 : (w4.alloc (.cells #[] 125)).frozen? ⟨g0, 0, none⟩ = false := (World.frozen?_alloc_old w4 _ ⟨g0, 0, none⟩ (Nat.ne_of_lt hblk)).trans hz
  simp [storeCells, go_sem, hc2, hz2] at h1
  exact h1.symm
 subst hw5
 have hRet : Ret S Try.f46.results.toList (.bool false) [] ⟨12, [(6, .box 6 0)], [(6, [.bool false])], [], [], [id + 1000]⟩ := by
  rw [Try.results46]
  refine ret0 ?_
  simp only [go_sem]
  all_goals trace_state
 obtain ⟨v, hrn, G8, hE⟩ := ret_end hs.fixed hs7 hRet
 exact ⟨v, hrn, v, G8, rfl, hE⟩
end Go.Proofs.Ytlcdahaihlflaaa
end
section
namespace Go.Proofs.Ytlcdahaihlflaaa
open Go Go.Lg
set_option linter.unusedSimpArgs false
set_option linter.unusedVariables false
set_option maxHeartbeats 4000000
attribute [local irreducible] SW runL runQ runG runQG FC Ret1 toF redoL
theorem uC_zeroP (rs : List Int) : uC rs b0 = [.sl .any (rs.map (.int .i64)), .sl .nil [], .sl .nil [], .sl .nil [], .sl .nil [], .sl .nil [], .sl .nil [], .sl .nil [], .sl .nil [], .sl .nil [], .sl .nil [], .sl .nil [], .sl .nil [], .sl .nil [], .sl .nil [], .sl .nil [], .sl .nil [], .sl .nil [], .sl .nil [], .sl .nil [], .sl .nil [], .sl .nil [], .sl .nil [], .sl .nil [], .sl .nil [], .sl .nil [], .sl .nil [], .sl .nil [], .sl .nil [], .sl .nil [], .sl .nil [], .sl .nil [], .sl .nil [], .sl .nil [], .sl .nil [], .sl .nil [], .sl .nil [], .sl .nil [], .sl .nil [], .sl .nil [], .sl .nil [], .sl .nil [], .sl .nil [], .sl .nil [], .sl .nil [], .sl .nil [], .sl .nil [], .sl .nil [], .sl .nil []] := by
 unfold uC b0
 simp [List.replicate, bD_nil]
theorem lenAll {x : SystemT} (hx : SystemOkP x) : ∀ r ∈ x.rules, 1 ≤ r.l.length := fun r hr => by
 obtain ⟨j, hj, rfl⟩ := List.getElem_of_mem hr
 have := (hx.2 j hj).1.1.2.1.1
 rwa [List.getD_eq_getElem?_getD, List.getElem?_eq_getElem hj] at this
attribute [local irreducible] bD
def kp118 : List (Nat × List Nat) := [(0, [3, 4, 5]), (1, [3, 4, 5, 18]), (2, [6]), (3, [3, 5, 7, 8]), (4, [3, 5, 7, 27]), (5, [6]), (6, [5, 7, 9]), (7, [6])]
attribute [go_sem] kp118
theorem connected_fc (x : SystemT) (hx : SystemOkP x) (p q : DepPairT) (hp : PrOk x.sig p) (hq : PrOk x.sig q) : FC S 118 [] [] [] [SystemD x, DepPairD p, DepPairD q] (.bool (tst (ConnP x p q))) [] [] := by
 have cC := capped_fc x p.r hp.1.2 (lenAll hx)
 have hpl := hp.1.2.2.1
 have hql := hq.1.1.2.1
 have cW := away_fc q.l (by omega) hq.1.1.ge
 by_cases hh : p.r.getD 0 default = q.l.getD 0 default
 ·by_cases hc : (capL x p.r 60 0 0).2 ≤ 24
  ·have hX := XT.of (cap_ok hp.1.2 hc)
   obtain ⟨f, r, hr, hri⟩ := conn_impl hX hq.1.1
   rw [show decide ((((capL x p.r 60 0 0).2 : Nat) : Int) ≤ 24) = true from decide_eq_true (by omega)] at cC
   rw [conn_few hh hc hri]
   generalize (capL x p.r 60 0 0).1 = out at *
   cases r with
   | some β' =>
    have cY := solve_yes 1031 x.sig 60 f b0 β' (b0_ok _) _ _ hX (XT.away hq.1.1) hr
    rw [uC_zeroP] at cY
    show FC S 118 [] [] [] [SystemD x, DepPairD p, DepPairD q] (.bool true) [] []
    unfold uC at cY
    refine fc_body Try.func118 rfl (by kernel_rfl) (by simp [Try.f118]) fun B => ?_
    simp only [Try.ntmps118, enumD, lst0, Nat.reduceAdd]
    repeat' first | ((exfalso; omega)) | ((refine hK.callB rfl rfl rfl (cY) (by refine ⟨⟨?_, ?_, ?_, ?_, ?_⟩, ⟨?_, ?_, ?_, ?_, ?_⟩, ?_⟩ <;> simp [-List.map_set, LS.getBox, Lg.look, D.ids, D.idsL, idsL_bool, idsL_bD, LS.clean, D.puOk, D.pu, D.pu1, D.tks, D.tksL, tksU_ints, tksL_bool, tksL_bD, puOk_intsU, puOk_bool, puOk_bD, inTok]) ?_; simp (disch := (refine Om.mk ?_; omega)) only [go_sem])) | refine sw_seq ?_ | refine sw_skip ?_ | refine sw_go 2000 kp118 fun K hK => ?_ | refine fun (K : KT) (hK : KOk S 2000 _ _ _ K) => ?_ | refine sw_goD kp118 (by kernel_rfl) fun K hK => ?_ | ((first | refine runL_go ?_ | refine runQ_go ?_ | refine sw_ret (ret0 ?_) | refine sw_ret ?_); simp (disch := (refine Om.mk ?_; omega)) only [go_sem, Try.results118]) | (refine hK.nil ?_; clear hK K; simp only [go_sem]) | ((first | refine sw_cond rfl ?_ ?_) <;> intro h <;> try simp (disch := (refine Om.mk ?_; omega)) only [go_sem] at h) | refine sw_loopEnd ?_ | refine hK.c0 rfl rfl rfl (cC) rfl rfl rfl ?_ | refine hK.c0 rfl rfl rfl (cW) rfl rfl rfl ?_ | (with_reducible refine And.intro (by first | omega | (simp only [lens]; omega)) ?_) | ((with_reducible refine And.intro ?_ ?_); · first | (intro x hx; subst hx; rfl) | (intro x; refine And.intro ?_ ?_ <;> (intros; subst_vars; rfl))) | fail
    all_goals trace_state
   | none =>
    have cY := solve_no 1031 x.sig 60 f b0 (b0_ok _) _ _ hX (XT.away hq.1.1) hr
    rw [uC_zeroP] at cY
    show FC S 118 [] [] [] [SystemD x, DepPairD p, DepPairD q] (.bool false) [] []
    refine fc_body Try.func118 rfl (by kernel_rfl) (by simp [Try.f118]) fun B => ?_
    simp only [Try.ntmps118, enumD, lst0, Nat.reduceAdd]
    repeat' first | ((exfalso; omega)) | ((refine hK.callB rfl rfl rfl (cY) (by refine ⟨⟨?_, ?_, ?_, ?_, ?_⟩, ⟨?_, ?_, ?_, ?_, ?_⟩, ?_⟩ <;> simp [-List.map_set, LS.getBox, Lg.look, D.ids, D.idsL, idsL_bool, idsL_bD, LS.clean, D.puOk, D.pu, D.pu1, D.tks, D.tksL, tksU_ints, tksL_bool, tksL_bD, puOk_intsU, puOk_bool, puOk_bD, inTok]) ?_; simp (disch := (refine Om.mk ?_; omega)) only [go_sem])) | refine sw_seq ?_ | refine sw_skip ?_ | refine sw_go 2000 kp118 fun K hK => ?_ | refine fun (K : KT) (hK : KOk S 2000 _ _ _ K) => ?_ | refine sw_goD kp118 (by kernel_rfl) fun K hK => ?_ | ((first | refine runL_go ?_ | refine runQ_go ?_ | refine sw_ret (ret0 ?_) | refine sw_ret ?_); simp (disch := (refine Om.mk ?_; omega)) only [go_sem, Try.results118]) | (refine hK.nil ?_; clear hK K; simp only [go_sem]) | ((first | refine sw_cond rfl ?_ ?_) <;> intro h <;> try simp (disch := (refine Om.mk ?_; omega)) only [go_sem] at h) | refine sw_loopEnd ?_ | refine hK.c0 rfl rfl rfl (cC) rfl rfl rfl ?_ | refine hK.c0 rfl rfl rfl (cW) rfl rfl rfl ?_ | (with_reducible refine And.intro (by first | omega | (simp only [lens]; omega)) ?_) | ((with_reducible refine And.intro ?_ ?_); · first | (intro x hx; subst hx; rfl) | (intro x; refine And.intro ?_ ?_ <;> (intros; subst_vars; rfl))) | fail
    all_goals trace_state
  ·rw [conn_many hh hc]
   rw [show decide ((((capL x p.r 60 0 0).2 : Nat) : Int) ≤ 24) = false from decide_eq_false (by omega)] at cC
   generalize (capL x p.r 60 0 0).1 = out at *
   refine fc_body Try.func118 rfl (by kernel_rfl) (by simp [Try.f118]) fun B => ?_
   simp only [Try.ntmps118, enumD, lst0, Nat.reduceAdd]
   repeat' first | ((exfalso; omega)) | refine sw_seq ?_ | refine sw_skip ?_ | refine sw_go 2000 kp118 fun K hK => ?_ | refine fun (K : KT) (hK : KOk S 2000 _ _ _ K) => ?_ | refine sw_goD kp118 (by kernel_rfl) fun K hK => ?_ | ((first | refine runL_go ?_ | refine runQ_go ?_ | refine sw_ret (ret0 ?_) | refine sw_ret ?_); simp (disch := (refine Om.mk ?_; omega)) only [go_sem, Try.results118]) | (refine hK.nil ?_; clear hK K; simp only [go_sem]) | ((first | refine sw_cond rfl ?_ ?_) <;> intro h <;> try simp (disch := (refine Om.mk ?_; omega)) only [go_sem] at h) | refine sw_loopEnd ?_ | refine hK.c0 rfl rfl rfl (cC) rfl rfl rfl ?_ | (with_reducible refine And.intro (by first | omega | (simp only [lens]; omega)) ?_) | ((with_reducible refine And.intro ?_ ?_); · first | (intro x hx; subst hx; rfl) | (intro x; refine And.intro ?_ ?_ <;> (intros; subst_vars; rfl))) | fail
 ·rw [conn_head hh]
  refine fc_body Try.func118 rfl (by kernel_rfl) (by simp [Try.f118]) fun B => ?_
  simp only [Try.ntmps118, enumD, lst0, Nat.reduceAdd]
  repeat' first | ((exfalso; omega)) | refine sw_seq ?_ | refine sw_skip ?_ | refine sw_go 2000 kp118 fun K hK => ?_ | refine fun (K : KT) (hK : KOk S 2000 _ _ _ K) => ?_ | refine sw_goD kp118 (by kernel_rfl) fun K hK => ?_ | ((first | refine runL_go ?_ | refine runQ_go ?_ | refine sw_ret (ret0 ?_) | refine sw_ret ?_); simp (disch := (refine Om.mk ?_; omega)) only [go_sem, Try.results118]) | (refine hK.nil ?_; clear hK K; simp only [go_sem]) | ((first | refine sw_cond rfl ?_ ?_) <;> intro h <;> try simp (disch := (refine Om.mk ?_; omega)) only [go_sem] at h) | refine sw_loopEnd ?_ | (with_reducible refine And.intro (by first | omega | (simp only [lens]; omega)) ?_) | ((with_reducible refine And.intro ?_ ?_); · first | (intro x hx; subst hx; rfl) | (intro x; refine And.intro ?_ ?_ <;> (intros; subst_vars; rfl))) | fail
end Go.Proofs.Ytlcdahaihlflaaa
end
section
namespace Go.Proofs.Ytlcdahaihlflaaa
open Go Go.Lg
set_option linter.unusedSimpArgs false
set_option linter.unusedVariables false
set_option maxHeartbeats 4000000
attribute [local irreducible] SW runL runQ runG runQG FC Ret1 toF redoL ConnP
open Classical in
noncomputable def rowG (x : SystemT) (P : List DepPairT) (p : Nat) : Nat → List Int
 | 0 => []
 | j + 1 => if ConnP x (P.getD p default) (P.getD j default) then rowG x P p j ++ [(j : Int)] else rowG x P p j
noncomputable def graphG (x : SystemT) (P : List DepPairT) : Nat → List (List Int)
 | 0 => []
 | i + 1 => graphG x P i ++ [rowG x P i P.length]
theorem graphG_succ (x : SystemT) (P : List DepPairT) (i : Nat) : graphG x P (i + 1) = graphG x P i ++ [rowG x P i P.length] := rfl
theorem rowG_yes {x : SystemT} {P : List DepPairT} {p j : Nat} (h : ConnP x (P.getD p default) (P.getD j default)) : rowG x P p (j + 1) = rowG x P p j ++ [(j : Int)] := if_pos h
theorem rowG_no {x : SystemT} {P : List DepPairT} {p j : Nat} (h : ¬ ConnP x (P.getD p default) (P.getD j default)) : rowG x P p (j + 1) = rowG x P p j := if_neg h
theorem rowG_len (x : SystemT) (P : List DepPairT) (p : Nat) : ∀ j, (rowG x P p j).length ≤ j
 | 0 => Nat.le_refl _
 | j + 1 => by
  have ih := rowG_len x P p j
  unfold rowG
  split
  ·rw [List.length_append, List.length_singleton]; omega
  ·omega
theorem rowG_mem (x : SystemT) (P : List DepPairT) (p : Nat) : ∀ j, ∀ q ∈ rowG x P p j, 0 ≤ q ∧ q < j
 | 0, q, h => by cases h
 | j + 1, q, h => by
  unfold rowG at h
  split at h
  ·rcases List.mem_append.1 h with h | h
   ·have := rowG_mem x P p j q h; omega
   ·rw [List.mem_singleton.1 h]; omega
  ·have := rowG_mem x P p j q h; omega
theorem graphG_len (x : SystemT) (P : List DepPairT) : ∀ i, (graphG x P i).length = i
 | 0 => rfl
 | i + 1 => by unfold graphG; rw [List.length_append, List.length_singleton, graphG_len x P i]
theorem graphG_get (x : SystemT) (P : List DepPairT) : ∀ i j, j < i → (graphG x P i).getD j default = rowG x P j P.length
 | i + 1, j, h => by
  have hl := graphG_len x P i
  unfold graphG
  rw [List.getD_eq_getElem?_getD]
  by_cases e : j < i
  ·rw [List.getElem?_append_left (by omega), ← List.getD_eq_getElem?_getD]
   exact graphG_get x P i j e
  ·obtain rfl : j = i := by omega
   rw [List.getElem?_append_right (by omega), hl, Nat.sub_self]; rfl
attribute [local irreducible] rowG
def kp68 : List (Nat × List Nat) := [(0, [1, 2]), (1, [1, 2, 5]), (2, [1, 2, 5, 6]), (3, [1, 2, 5, 6, 13]), (5, [1, 2, 5, 6, 7]), (6, [1, 2, 5, 6, 7, 8]), (7, [1, 2, 5, 6, 7, 8, 20]), (9, [1, 2, 5, 6, 7, 8, 32]), (10, [1, 2, 5, 6, 7, 8]), (8, [1, 2, 5, 6, 7, 8]), (11, [1, 2, 5, 6]), (4, [1, 2, 5, 6]), (12, [4])]
attribute [go_sem] kp68
theorem l18Graph_fc (x : SystemT) (hx : SystemOkP x) (P : List DepPairT) (hP : ∀ p ∈ P, PrOk x.sig p) (hl : P.length ≤ 64) : FC S 68 [] [] [] [SystemD x, .sl .any (P.map DepPairD)] (.sl .any ((graphG x P P.length).map IntsD)) [] [] := by
 have hr0 : ∀ p, rowG x P p 0 = [] := fun p => by unfold rowG; rfl
 refine fc_body Try.func68 rfl (by kernel_rfl) (by simp [Try.f68]) fun B => ?_
 simp only [Try.ntmps68, enumD, lst0, Nat.reduceAdd]
 repeat' first | ((refine sw_tok 5 41000 22 1 rfl (.inr rfl) rfl ?_; simp only [go_sem])) | refine sw_seq ?_ | refine sw_block ?_ | refine sw_inBlock ?_ | refine sw_skip ?_ | refine sw_go 0 kp68 fun K hK => ?_ | refine fun (K : KT) (hK : KOk S 0 _ _ _ K) => ?_ | refine sw_goD kp68 (by kernel_rfl) fun K hK => ?_ | ((first | refine runL_go ?_ | refine runQ_go ?_ | refine sw_ret (ret0 ?_) | refine sw_ret ?_); simp (disch := (refine Om.mk ?_; omega)) only [go_sem, Try.results68]) | (refine hK.nil ?_; clear hK K; simp only [go_sem]) | ((first | refine sw_cond rfl ?_ ?_) <;> intro h <;> try simp (disch := (refine Om.mk ?_; omega)) only [go_sem] at h) | refine sw_exit rfl ?_ | refine sw_loopEnd ?_ | (with_reducible refine And.intro (by first | omega | (simp only [lens]; omega)) ?_) | ((with_reducible refine And.intro ?_ ?_); · first | (intro x hx; subst hx; rfl) | (intro x; refine And.intro ?_ ?_ <;> (intros; subst_vars; rfl))) | fail
 refine sw_loopT (ι := Nat) (fun i => [(1, .sl .any (P.map DepPairD)), (2, .box 2 0), (5, .sl (.own 41000 22 1) ((graphG x P i).map IntsD)), (6, .int .i64 i)]) (fun _ => []) (fun _ => [41000]) (fun i => i ≤ P.length) (fun i => P.length - i) 0 (by (refine covers_mk0 rfl rfl ?_ ?_ ?_ ?_ <;> simp (disch := (refine Om.mk ?_; omega)) only [go_sem] <;> (try omega)); all_goals exact ⟨rfl, rfl⟩) (by omega) (fun i hi => ?_)
 simp only [go_sem]
 have hgl := graphG_len x P i
 by_cases hil : i < P.length
 ·repeat' first | ((exfalso; omega)) | ((refine sw_tok 7 37000 2 1 rfl (.inr rfl) rfl ?_; simp only [go_sem])) | refine sw_seq ?_ | refine sw_block ?_ | refine sw_inBlock ?_ | refine sw_skip ?_ | refine sw_go 0 kp68 fun K hK => ?_ | refine fun (K : KT) (hK : KOk S 0 _ _ _ K) => ?_ | refine sw_goD kp68 (by kernel_rfl) fun K hK => ?_ | ((first | refine runL_go ?_ | refine runQ_go ?_ | refine sw_ret (ret0 ?_) | refine sw_ret ?_); simp (disch := (refine Om.mk ?_; omega)) only [go_sem, Try.results68]) | (refine hK.nil ?_; clear hK K; simp only [go_sem]) | ((first | refine sw_cond rfl ?_ ?_) <;> intro h <;> try simp (disch := (refine Om.mk ?_; omega)) only [go_sem] at h) | refine sw_exit rfl ?_ | refine sw_loopEnd ?_ | (with_reducible refine And.intro (by first | omega | (simp only [lens]; omega)) ?_) | ((with_reducible refine And.intro ?_ ?_); · first | (intro x hx; subst hx; rfl) | (intro x; refine And.intro ?_ ?_ <;> (intros; subst_vars; rfl))) | fail
  refine sw_loopT (ι := Nat) (fun j => [(1, .sl .any (P.map DepPairD)), (2, .box 2 0), (5, .sl (.own 41000 22 1) ((graphG x P i).map IntsD)), (6, .int .i64 i), (7, .sl (.own 37000 2 1) ((rowG x P i j).map (.int .i64))), (8, .int .i64 j)]) (fun _ => []) (fun _ => [41000, 37000]) (fun j => j ≤ P.length) (fun j => P.length - j) 0 (by rw [hr0]; (refine covers_mk0 rfl rfl ?_ ?_ ?_ ?_ <;> simp (disch := (refine Om.mk ?_; omega)) only [go_sem] <;> (try omega)); all_goals exact ⟨rfl, rfl⟩) (by omega) (fun j hj => ?_)
  simp only [go_sem]
  have hrl := rowG_len x P i j
  by_cases hjl : j < P.length
  ·have cN := l17Connected_fc x hx (P.getD i default) (P.getD j default) (hP _ (getD_mem P i hil)) (hP _ (getD_mem P j hjl))
   by_cases hc : ConnP x (P.getD i default) (P.getD j default)
   ·rw [tst_true hc] at cN
    have e := rowG_yes hc
    repeat' first | ((exfalso; omega)) | refine sw_seq ?_ | refine sw_block ?_ | refine sw_inBlock ?_ | refine sw_skip ?_ | refine sw_go 0 kp68 fun K hK => ?_ | refine fun (K : KT) (hK : KOk S 0 _ _ _ K) => ?_ | refine sw_goD kp68 (by kernel_rfl) fun K hK => ?_ | ((first | refine runL_go ?_ | refine runQ_go ?_ | refine sw_ret (ret0 ?_) | refine sw_ret ?_); simp (disch := (refine Om.mk ?_; omega)) only [go_sem, Try.results68]) | (refine hK.nil ?_; clear hK K; simp only [go_sem]) | ((first | refine sw_cond rfl ?_ ?_) <;> intro h <;> try simp (disch := (refine Om.mk ?_; omega)) only [go_sem] at h) | refine sw_exit rfl ?_ | refine sw_loopEnd ?_ | refine hK.c0 rfl rfl rfl (cN) rfl rfl rfl ?_ | (with_reducible refine And.intro (by first | omega | (simp only [lens]; omega)) ?_) | ((with_reducible refine And.intro ?_ ?_); · first | (intro x hx; subst hx; rfl) | (intro x; refine And.intro ?_ ?_ <;> (intros; subst_vars; rfl))) | fail
    all_goals exact ⟨j + 1, (by rw [e]; (refine covers_mk0 rfl rfl ?_ ?_ ?_ ?_ <;> simp (disch := (refine Om.mk ?_; omega)) only [go_sem] <;> (try omega)); all_goals first | (simp; done) | trace_state), by omega, by omega⟩
   ·rw [tst_false hc] at cN
    have e := rowG_no hc
    repeat' first | ((exfalso; omega)) | refine sw_seq ?_ | refine sw_block ?_ | refine sw_inBlock ?_ | refine sw_skip ?_ | refine sw_go 0 kp68 fun K hK => ?_ | refine fun (K : KT) (hK : KOk S 0 _ _ _ K) => ?_ | refine sw_goD kp68 (by kernel_rfl) fun K hK => ?_ | ((first | refine runL_go ?_ | refine runQ_go ?_ | refine sw_ret (ret0 ?_) | refine sw_ret ?_); simp (disch := (refine Om.mk ?_; omega)) only [go_sem, Try.results68]) | (refine hK.nil ?_; clear hK K; simp only [go_sem]) | ((first | refine sw_cond rfl ?_ ?_) <;> intro h <;> try simp (disch := (refine Om.mk ?_; omega)) only [go_sem] at h) | refine sw_exit rfl ?_ | refine sw_loopEnd ?_ | refine hK.c0 rfl rfl rfl (cN) rfl rfl rfl ?_ | (with_reducible refine And.intro (by first | omega | (simp only [lens]; omega)) ?_) | ((with_reducible refine And.intro ?_ ?_); · first | (intro x hx; subst hx; rfl) | (intro x; refine And.intro ?_ ?_ <;> (intros; subst_vars; rfl))) | fail
    all_goals exact ⟨j + 1, (by rw [e]; (refine covers_mk0 rfl rfl ?_ ?_ ?_ ?_ <;> simp (disch := (refine Om.mk ?_; omega)) only [go_sem] <;> (try omega))), by omega, by omega⟩
  ·obtain rfl : j = P.length := by omega
   repeat' first | ((exfalso; omega)) | refine sw_seq ?_ | refine sw_block ?_ | refine sw_inBlock ?_ | refine sw_skip ?_ | refine sw_go 0 kp68 fun K hK => ?_ | refine fun (K : KT) (hK : KOk S 0 _ _ _ K) => ?_ | refine sw_goD kp68 (by kernel_rfl) fun K hK => ?_ | ((first | refine runL_go ?_ | refine runQ_go ?_ | refine sw_ret (ret0 ?_) | refine sw_ret ?_); simp (disch := (refine Om.mk ?_; omega)) only [go_sem, Try.results68]) | (refine hK.nil ?_; clear hK K; simp only [go_sem]) | ((first | refine sw_cond rfl ?_ ?_) <;> intro h <;> try simp (disch := (refine Om.mk ?_; omega)) only [go_sem] at h) | refine sw_exit rfl ?_ | refine sw_loopEnd ?_ | (with_reducible refine And.intro (by first | omega | (simp only [lens]; omega)) ?_) | ((with_reducible refine And.intro ?_ ?_); · first | (intro x hx; subst hx; rfl) | (intro x; refine And.intro ?_ ?_ <;> (intros; subst_vars; rfl))) | fail
   all_goals exact ⟨i + 1, (by rw [graphG_succ]; (refine covers_mk0 rfl rfl ?_ ?_ ?_ ?_ <;> simp (disch := (refine Om.mk ?_; omega)) only [go_sem] <;> (try omega)); all_goals first | (refine ⟨?_, ?_⟩; (· rw [List.map_append]; rfl); (· omega)) | trace_state), by omega, by omega⟩
 ·obtain rfl : i = P.length := by omega
  repeat' first | ((exfalso; omega)) | refine sw_seq ?_ | refine sw_block ?_ | refine sw_inBlock ?_ | refine sw_skip ?_ | refine sw_go 0 kp68 fun K hK => ?_ | refine fun (K : KT) (hK : KOk S 0 _ _ _ K) => ?_ | refine sw_goD kp68 (by kernel_rfl) fun K hK => ?_ | ((first | refine runL_go ?_ | refine runQ_go ?_ | refine sw_ret (ret0 ?_) | refine sw_ret ?_); simp (disch := (refine Om.mk ?_; omega)) only [go_sem, Try.results68]) | (refine hK.nil ?_; clear hK K; simp only [go_sem]) | ((first | refine sw_cond rfl ?_ ?_) <;> intro h <;> try simp (disch := (refine Om.mk ?_; omega)) only [go_sem] at h) | refine sw_exit rfl ?_ | refine sw_loopEnd ?_ | (with_reducible refine And.intro (by first | omega | (simp only [lens]; omega)) ?_) | ((with_reducible refine And.intro ?_ ?_); · first | (intro x hx; subst hx; rfl) | (intro x; refine And.intro ?_ ?_ <;> (intros; subst_vars; rfl))) | fail
def cellR (G : List (List Int)) (cur : D) (k j : Nat) : D := if j = k then cur else if j < k then IntsD (G.getD j default) else .sl .nil []
def cellsR (n : Nat) (G : List (List Int)) (cur : D) (k : Nat) : List D := (List.range n).map (cellR G cur k)
theorem cellsR_len (n : Nat) (G : List (List Int)) (cur : D) (k : Nat) : (cellsR n G cur k).length = n := by unfold cellsR; simp
theorem cellsR_cur {n : Nat} {G : List (List Int)} {cur : D} {k : Nat} (h : Om (k < n)) : (List.drop k (cellsR n G cur k)).head? = some cur := by
 rw [List.head?_drop, cellsR, List.getElem?_map, List.getElem?_range h.1]
 simp [cellR]
theorem cellsR_at {n : Nat} {G : List (List Int)} {cur : D} {k : Nat} (h : k < n) : (cellsR n G cur k)[k]? = some cur := by
 rw [cellsR, List.getElem?_map, List.getElem?_range h]
 simp [cellR]
theorem cellsR_get {n : Nat} {G : List (List Int)} {cur : D} {k j : Nat} {d : D} (h : (cellsR n G cur k)[j]? = some d) : j < n ∧ d = cellR G cur k j := by
 have hj : j < n := by have := (List.getElem?_eq_some_iff.1 h).1; rwa [cellsR_len] at this
 rw [cellsR, List.getElem?_map, List.getElem?_range hj] at h
 exact ⟨hj, (Option.some.inj h).symm⟩
theorem cellsR_set {n : Nat} {G : List (List Int)} {cur : D} {k : Nat} (x : D) : (cellsR n G cur k).set k x = cellsR n G x k := by
 refine List.ext_getElem (by simp [cellsR]) fun j h1 h2 => ?_
 have hj : j < n := by simpa [cellsR] using h2
 simp only [cellsR, List.getElem_set, List.getElem_map, List.getElem_range, cellR]
 by_cases e : k = j
 ·subst e; simp
 ·have e' : ¬ j = k := fun h => e h.symm
  simp [e, e']
theorem cellsR_pu (n : Nat) (G : List (List Int)) (cur : D) (k : Nat) (p : Nat → Bool) : (cellsR n G cur k).map (D.pu1 p) = cellsR n G (cur.pu1 p) k := by
 unfold cellsR
 rw [List.map_map]
 refine List.map_congr_left fun j _ => ?_
 simp only [Function.comp, cellR]
 split
 ·rfl
 ·split <;> rfl
theorem tksR_part (G : List (List Int)) (cur : D) (k : Nat) : ∀ n, D.tksL (cellsR n G cur k) = if k < n then cur.tks else []
 | 0 => rfl
 | n + 1 => by
  have happ : ∀ a b : List D, D.tksL (a ++ b) = D.tksL a ++ D.tksL b := fun a b => by
   induction a with
   | nil => rfl
   | cons x r ih => simp only [List.cons_append, D.tksL, ih, List.append_assoc]
  have ih := tksR_part G cur k n
  unfold cellsR at ih ⊢
  rw [List.range_succ, List.map_append, happ, ih]
  by_cases e : n = k
  ·subst e; simp [D.tksL, cellR]
  ·have h0 : (cellR G cur k n).tks = [] := by
    unfold cellR; rw [if_neg e]; split <;> rfl
   simp only [List.map_cons, List.map_nil, D.tksL, h0, List.append_nil]
   by_cases h : k < n
   ·rw [if_pos h, if_pos (by omega)]
   ·rw [if_neg h, if_neg (by omega)]
theorem idsR_part (G : List (List Int)) (tk : Tk) (xs : List D) (k : Nat) : ∀ n, D.idsL (cellsR n G (.sl tk xs) k) = []
 | 0 => rfl
 | n + 1 => by
  have happ : ∀ a b : List D, D.idsL (a ++ b) = D.idsL a ++ D.idsL b := fun a b => by
   induction a with
   | nil => rfl
   | cons x r ih => simp only [List.cons_append, D.idsL, ih, List.append_assoc]
  have ih := idsR_part G tk xs k n
  unfold cellsR at ih ⊢
  rw [List.range_succ, List.map_append, happ, ih]
  have h0 : (cellR G (.sl tk xs) k n).ids = [] := by
   unfold cellR; split
   ·rfl
   ·split <;> rfl
  simp only [List.map_cons, List.map_nil, D.idsL, h0, List.append_nil]
theorem cellsR_tks {n : Nat} {G : List (List Int)} {cur : D} {k : Nat} (h : Om (k < n)) : D.tksL (cellsR n G cur k) = cur.tks := by rw [tksR_part, if_pos h.1]
theorem cellsR_tksN (n : Nat) (G : List (List Int)) (k : Nat) : D.tksL (cellsR n G (.sl .nil []) k) = [] := by rw [tksR_part]; split <;> rfl
theorem cellsR_tksA (n : Nat) (G : List (List Int)) (xs : List D) (k : Nat) : D.tksL (cellsR n G (.sl .any xs) k) = [] := by rw [tksR_part]; split <;> rfl
theorem cellsR_zero (n : Nat) : (List.replicate n [D.sl Tk.nil []]).flatten = cellsR n [] (.sl .nil []) 0 := by
 rw [List.flatten_replicate_singleton]
 refine List.ext_getElem (by simp [cellsR]) fun j h1 h2 => ?_
 simp only [cellsR, List.getElem_map, List.getElem_range, List.getElem_replicate, cellR]
 split
 ·rfl
 ·rw [if_neg (by omega)]
theorem cellsR_next {n : Nat} {G : List (List Int)} {row : List Int} {tk : Tk} {k : Nat} (hG : G.length = k) (j : Nat) (c d : D) (hc : (cellsR n G (.sl tk (row.map (.int .i64))) k)[j]? = some c) (hd : (cellsR n (G ++ [row]) (.sl .nil []) (k + 1))[j]? = some d) : D.le c d := by
 obtain ⟨hj, rfl⟩ := cellsR_get hc
 obtain ⟨_, rfl⟩ := cellsR_get hd
 unfold cellR
 by_cases e : j = k
 ·subst e
  rw [if_pos rfl, if_neg (by omega), if_pos (by omega), List.getD_eq_getElem?_getD, List.getElem?_append_right (by omega), hG, Nat.sub_self]
  exact .any
 ·rw [if_neg e]
  by_cases h : j < k
  ·rw [if_pos h, if_neg (by omega), if_pos (by omega), List.getD_eq_getElem?_getD (l := G ++ [row]), List.getElem?_append_left (by omega), ← List.getD_eq_getElem?_getD]
   exact .refl _
  ·rw [if_neg h]
   split
   ·exact .refl _
   ·rw [if_neg (by omega)]; exact .refl _
theorem cellsR_end {n : Nat} {G : List (List Int)} {cur : D} (hG : G.length = n) : cellsR n G cur n = G.map IntsD := by
 refine List.ext_getElem (by simp [cellsR, hG]) fun j h1 h2 => ?_
 have hj : j < n := by simpa [cellsR] using h1
 simp only [cellsR, List.getElem_map, List.getElem_range, cellR]
 rw [if_neg (by omega), if_pos hj, List.getD_eq_getElem?_getD, List.getElem?_eq_getElem (by omega)]
 rfl
theorem flat_intsG (G : List (List Int)) : flat (G.map IntsD) = G.map IntsD := by
 induction G with
 | nil => rfl
 | cons y r ih => simp only [List.map_cons, flat, List.flatMap_cons] at ih ⊢; rw [ih]; rfl
attribute [local go_sem] cellsR_cur cellsR_set cellsR_pu cellsR_tks cellsR_tksN cellsR_tksA idsR_part cellsR_len
attribute [local irreducible] cellsR
def kp73 : List (Nat × List Nat) := [(0, [1, 2]), (1, [1, 2, 5]), (2, [1, 2, 5, 13, 14, 15]), (3, [1, 2, 5, 13, 14, 15, 16]), (4, [1, 2, 5, 6, 7, 13, 14, 15]), (5, [1, 2, 5, 6, 7, 13, 14, 15, 20, 21, 22]), (6, [1, 2, 5, 6, 7, 13, 14, 15, 20, 21, 22, 23]), (7, [1, 2, 5, 6, 7, 8, 9, 13, 14, 15, 20, 21, 22]), (8, [1, 2, 5, 6, 7, 8, 13, 14, 15, 20, 21, 22, 30]), (9, [1, 2, 5, 6, 7, 13, 14, 15, 20, 21, 22]), (10, [1, 2, 5, 6, 7, 13, 14, 15, 20, 21, 22]), (11, [1, 2, 5, 13, 14, 15]), (12, [4])]
attribute [go_sem] kp73
theorem graph_fc (x : SystemT) (hx : SystemOkP x) (P : List DepPairT) (hP : ∀ p ∈ P, PrOk x.sig p) (hl : P.length ≤ 64) : FC S 73 [] [] [] [SystemD x, .sl .any (P.map DepPairD)] (.sl .any ((graphG x P P.length).map IntsD)) [] [] := by
 have hr0 : ∀ p, rowG x P p 0 = [] := fun p => by unfold rowG; rfl
 refine fc_body Try.func73 rfl (by kernel_rfl) (by simp [Try.f73]) fun B => ?_
 simp only [Try.ntmps73, enumD, lst0, Nat.reduceAdd]
 repeat' first | refine sw_seq ?_ | refine sw_block ?_ | refine sw_inBlock ?_ | refine sw_skip ?_ | refine sw_go 0 kp73 fun K hK => ?_ | refine fun (K : KT) (hK : KOk S 0 _ _ _ K) => ?_ | ((first | refine runL_go ?_ | refine sw_ret (ret0 ?_) | refine sw_ret ?_); simp (disch := (refine Om.mk ?_; omega)) only [go_sem, Try.results73]) | (refine hK.nil ?_; clear hK K; simp only [go_sem]) | ((first | refine sw_cond rfl ?_ ?_) <;> intro h <;> try simp (disch := (refine Om.mk ?_; omega)) only [go_sem] at h) | refine sw_exit rfl ?_ | refine sw_loopEnd ?_ | (with_reducible refine And.intro (by first | omega | (simp only [lens]; omega)) ?_) | ((with_reducible refine And.intro ?_ ?_); · first | (intro x hx; subst hx; rfl) | (intro x; refine And.intro ?_ ?_ <;> (intros; subst_vars; rfl))) | fail
 rw [cellsR_zero]
 refine sw_loopT (ι := Nat) (fun i => [(15, .int .i64 i)]) (fun i => [(12, cellsR P.length (graphG x P i) (.sl .nil []) i)]) (fun _ => []) (fun i => i ≤ P.length) (fun i => P.length - i) 0 (by (refine covers_mk0 rfl rfl ?_ ?_ ?_ ?_ <;> simp (disch := (refine Om.mk ?_; omega)) only [go_sem] <;> (try omega)); all_goals first | rfl | exact ⟨rfl, rfl⟩ | trace_state) (by omega) (fun i hi => ?_)
 simp only [go_sem]
 have hgl := graphG_len x P i
 by_cases hil : i < P.length
 ·repeat' first | ((exfalso; omega)) | refine sw_seq ?_ | refine sw_block ?_ | refine sw_inBlock ?_ | refine sw_skip ?_ | refine sw_go 0 kp73 fun K hK => ?_ | refine fun (K : KT) (hK : KOk S 0 _ _ _ K) => ?_ | ((first | refine runL_go ?_ | refine sw_ret (ret0 ?_) | refine sw_ret ?_); simp (disch := (refine Om.mk ?_; omega)) only [go_sem, Try.results73]) | (refine hK.nil ?_; clear hK K; simp only [go_sem]) | ((first | refine sw_cond rfl ?_ ?_) <;> intro h <;> try simp (disch := (refine Om.mk ?_; omega)) only [go_sem] at h) | refine sw_exit rfl ?_ | refine sw_loopEnd ?_ | (with_reducible refine And.intro (by first | omega | (simp only [lens]; omega)) ?_) | ((with_reducible refine And.intro ?_ ?_); · first | (intro x hx; subst hx; rfl) | (intro x; refine And.intro ?_ ?_ <;> (intros; subst_vars; rfl))) | fail
  refine sw_tokBox 12 i 40000 2 1 (cs := cellsR P.length (graphG x P i) (.sl .nil []) i) (by simp [LS.purge, mapA, Lg.look, cellsR_pu, D.pu1]) (cellsR_at hil) (by simp (disch := (refine Om.mk ?_; omega)) [LS.purge, LS.clean, mapA, D.pu, D.pu1, D.tks, D.tksL, cellsR_pu, cellsR_tksN]) ?_
  simp (disch := (refine Om.mk ?_; omega)) only [go_sem]
  refine sw_loopT (ι := Nat) (fun j => [(22, .int .i64 j)]) (fun j => [(12, cellsR P.length (graphG x P i) (.sl (.own 40000 2 1) ((rowG x P i j).map (.int .i64))) i)]) (fun _ => [40000]) (fun j => j ≤ P.length) (fun j => P.length - j) 0 (by rw [hr0]; (refine covers_mk0 rfl rfl ?_ ?_ ?_ ?_ <;> simp (disch := (refine Om.mk ?_; omega)) only [go_sem] <;> (try omega)); all_goals first | rfl | exact ⟨rfl, rfl⟩ | trace_state) (by omega) (fun j hj => ?_)
  simp (disch := (refine Om.mk ?_; omega)) only [go_sem]
  have hrl := rowG_len x P i j
  by_cases hjl : j < P.length
  ·have cN := connected_fc x hx (P.getD i default) (P.getD j default) (hP _ (getD_mem P i hil)) (hP _ (getD_mem P j hjl))
   by_cases hc : ConnP x (P.getD i default) (P.getD j default)
   ·rw [tst_true hc] at cN
    have e := rowG_yes hc
    repeat' first | ((exfalso; omega)) | refine sw_seq ?_ | refine sw_block ?_ | refine sw_inBlock ?_ | refine sw_skip ?_ | refine sw_go 0 kp73 fun K hK => ?_ | refine fun (K : KT) (hK : KOk S 0 _ _ _ K) => ?_ | ((first | refine runL_go ?_ | refine sw_ret (ret0 ?_) | refine sw_ret ?_); simp (disch := (refine Om.mk ?_; omega)) only [go_sem, Try.results73]) | (refine hK.nil ?_; clear hK K; simp only [go_sem]) | ((first | refine sw_cond rfl ?_ ?_) <;> intro h <;> try simp (disch := (refine Om.mk ?_; omega)) only [go_sem] at h) | refine sw_exit rfl ?_ | refine sw_loopEnd ?_ | refine hK.c0 rfl rfl rfl (cN) rfl rfl rfl ?_ | (with_reducible refine And.intro (by first | omega | (simp only [lens]; omega)) ?_) | ((with_reducible refine And.intro ?_ ?_); · first | (intro x hx; subst hx; rfl) | (intro x; refine And.intro ?_ ?_ <;> (intros; subst_vars; rfl))) | fail
    all_goals exact ⟨j + 1, (by rw [e]; (refine covers_mk0 rfl rfl ?_ ?_ ?_ ?_ <;> simp (disch := (refine Om.mk ?_; omega)) only [go_sem] <;> (try omega)); all_goals first | (simp; done) | trace_state), by omega, by omega⟩
   ·rw [tst_false hc] at cN
    have e := rowG_no hc
    repeat' first | ((exfalso; omega)) | refine sw_seq ?_ | refine sw_block ?_ | refine sw_inBlock ?_ | refine sw_skip ?_ | refine sw_go 0 kp73 fun K hK => ?_ | refine fun (K : KT) (hK : KOk S 0 _ _ _ K) => ?_ | ((first | refine runL_go ?_ | refine sw_ret (ret0 ?_) | refine sw_ret ?_); simp (disch := (refine Om.mk ?_; omega)) only [go_sem, Try.results73]) | (refine hK.nil ?_; clear hK K; simp only [go_sem]) | ((first | refine sw_cond rfl ?_ ?_) <;> intro h <;> try simp (disch := (refine Om.mk ?_; omega)) only [go_sem] at h) | refine sw_exit rfl ?_ | refine sw_loopEnd ?_ | refine hK.c0 rfl rfl rfl (cN) rfl rfl rfl ?_ | (with_reducible refine And.intro (by first | omega | (simp only [lens]; omega)) ?_) | ((with_reducible refine And.intro ?_ ?_); · first | (intro x hx; subst hx; rfl) | (intro x; refine And.intro ?_ ?_ <;> (intros; subst_vars; rfl))) | fail
    all_goals exact ⟨j + 1, (by rw [e]; (refine covers_mk0 rfl rfl ?_ ?_ ?_ ?_ <;> simp (disch := (refine Om.mk ?_; omega)) only [go_sem] <;> (try omega)); all_goals first | (simp; done) | trace_state), by omega, by omega⟩
  ·obtain rfl : j = P.length := by omega
   refine sw_boxLe 12 (cellsR P.length (graphG x P i ++ [rowG x P i P.length]) (.sl .nil []) (i + 1)) rfl (by rw [cellsR_len, cellsR_len]) (cellsR_next hgl) ?_
   simp (disch := (refine Om.mk ?_; omega)) only [go_sem]
   repeat' first | ((exfalso; omega)) | refine sw_seq ?_ | refine sw_block ?_ | refine sw_inBlock ?_ | refine sw_skip ?_ | refine sw_go 0 kp73 fun K hK => ?_ | refine fun (K : KT) (hK : KOk S 0 _ _ _ K) => ?_ | ((first | refine runL_go ?_ | refine sw_ret (ret0 ?_) | refine sw_ret ?_); simp (disch := (refine Om.mk ?_; omega)) only [go_sem, Try.results73]) | (refine hK.nil ?_; clear hK K; simp only [go_sem]) | ((first | refine sw_cond rfl ?_ ?_) <;> intro h <;> try simp (disch := (refine Om.mk ?_; omega)) only [go_sem] at h) | refine sw_exit rfl ?_ | refine sw_loopEnd ?_ | (with_reducible refine And.intro (by first | omega | (simp only [lens]; omega)) ?_) | ((with_reducible refine And.intro ?_ ?_); · first | (intro x hx; subst hx; rfl) | (intro x; refine And.intro ?_ ?_ <;> (intros; subst_vars; rfl))) | fail
   all_goals exact ⟨i + 1, (by rw [graphG_succ]; (refine covers_mk0 rfl rfl ?_ ?_ ?_ ?_ <;> simp (disch := (refine Om.mk ?_; omega)) only [go_sem] <;> (try omega)); all_goals first | (simp; done) | trace_state), by omega, by omega⟩
 ·obtain rfl : i = P.length := by omega
  refine sw_freeze 5 1 .any ((graphG x P P.length).map IntsD) rfl rfl (by rw [cellsR_end hgl]; exact (flat_intsG _).symm) (by rw [List.length_map, hgl]) (fun d hd => by obtain ⟨y, _, rfl⟩ := List.mem_map.1 hd; rfl) (by rw [cellsR_end hgl]; intro d hd; obtain ⟨y, _, rfl⟩ := List.mem_map.1 hd; rfl) (.inl rfl) ?_
  simp only [go_sem]
  repeat' first | ((exfalso; omega)) | refine sw_seq ?_ | refine sw_block ?_ | refine sw_inBlock ?_ | refine sw_skip ?_ | refine sw_go 0 kp73 fun K hK => ?_ | refine fun (K : KT) (hK : KOk S 0 _ _ _ K) => ?_ | ((first | refine runL_go ?_ | refine sw_ret (ret0 ?_) | refine sw_ret ?_); simp (disch := (refine Om.mk ?_; omega)) only [go_sem, Try.results73]) | (refine hK.nil ?_; clear hK K; simp only [go_sem]) | ((first | refine sw_cond rfl ?_ ?_) <;> intro h <;> try simp (disch := (refine Om.mk ?_; omega)) only [go_sem] at h) | refine sw_exit rfl ?_ | refine sw_loopEnd ?_ | (with_reducible refine And.intro (by first | omega | (simp only [lens]; omega)) ?_) | ((with_reducible refine And.intro ?_ ?_); · first | (intro x hx; subst hx; rfl) | (intro x; refine And.intro ?_ ?_ <;> (intros; subst_vars; rfl))) | fail
end Go.Proofs.Ytlcdahaihlflaaa
end
