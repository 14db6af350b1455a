/-
  Rules by the laws' dice.
-/
import Derived.Test.YtmogobaaophknaaG10
import Derived.Test.YtmogobaaophknaaLgK11
import Derived.Test.YtmogobaaophknaaLgK10
namespace Go.Proofs.Ytmogobaaophknaa
open Go Go.Lg
set_option linter.unusedSimpArgs false
set_option linter.unusedVariables false
set_option maxHeartbeats 4000000
attribute [local irreducible] SW runL runQ runG runQG FC Ret1 toF redoL
theorem idsL_intsE (k : IntKind) (xs : List Int) : D.idsL (xs.map (.int k)) = [] := by
 induction xs with
 | nil => rfl
 | cons x r ih => simp [D.idsL, D.ids, ih]
theorem safeIL_intsE (k : Nat) (tk : List Nat) (j : IntKind) (xs : List Int) : D.safeIL k tk (xs.map (.int j)) = true := safeIL_of fun d hd => by obtain ⟨x, _, rfl⟩ := List.mem_map.1 hd; rfl
theorem offI_u8E : ∀ xs : List Int, D.offIL (xs.map (.int .u8)) = true := offI_map fun _ => rfl
theorem lops_freeze {S : Setup} {B : Base} {ops : Array Oper} {l : List Oper} {L : LS} {N : LS → Prop} (t s : Nat) (tk : Tk) {id n : Nat} {cs : List D} (xs : List D) (ht : Lg.look L.env t = some (.ms id n)) (hb : Lg.look L.boxes id = some cs) (hx : cs = flat xs) (hn : n = xs.length)
  (hu : ∀ x ∈ xs, x.cells.length = s) (hk : ∀ d ∈ cs, d.memOk = true) (htk : tk = .any ∨ tk = .nn) (hh : LopsW S B ops l { L with env := setA L.env t (.sl tk xs), boxes := eraseK id L.boxes } N) : LopsW S B ops l L N := fun G a w hs Q hQ => by
 obtain ⟨G', h'⟩ := freeze_sim hs ht hb hx hn hu hk htk
 exact hh G' a w h' Q hQ
theorem tksE (k : IntKind) (xs : List Int) : D.tksL (xs.map (.int k)) = [] := by
 induction xs with
 | nil => rfl
 | cons x r ih => simp [D.tksL, D.tks, ih]
theorem puOkE (p : Nat → Bool) (k : IntKind) (xs : List Int) : ((xs.map (D.int k)).all fun d => d.puOk p) = true := by
 rw [List.all_map]
 exact List.all_eq_true.2 fun _ _ => rfl
theorem map_neE {f : Int → D} {u : List Int} (h : u ≠ []) : ¬ List.map f u = [] := fun e => h (List.map_eq_nil_iff.1 e)
theorem map_E1 {u LL : List Int} {n : Int} (h : n :: u = LL) : D.int .i64 n :: List.map (D.int .i64) u = LL.map (D.int .i64) := by rw [← h]; rfl
def fxR (bs V r : List Int) (c : Dc) : Nat → List Int × Dc
 | 0 => (r, c)
 | i + 1 => if (fxR bs V r c i).1.getD i default < 0 then (if V = [] then ((fxR bs V r c i).1.set i 2, (fxR bs V r c i).2) else ((fxR bs V r c i).1.set i (-1 - V.getD (bel bs (fxR bs V r c i).2 V.length).toNat default), dC bs (fxR bs V r c i).2)) else fxR bs V r c i
section
variable {bs V r : List Int} {c : Dc}
theorem fxR_z : fxR bs V r c 0 = (r, c) := rfl
theorem fxR_two {i : Nat} (h : (fxR bs V r c i).1.getD i default < 0) (hV : V = []) : fxR bs V r c (i + 1) = ((fxR bs V r c i).1.set i 2, (fxR bs V r c i).2) := by
 show (if _ then _ else _) = _
 rw [if_pos h, if_pos hV]
theorem fxR_var {i : Nat} (h : (fxR bs V r c i).1.getD i default < 0) (hV : V ≠ []) : fxR bs V r c (i + 1) = ((fxR bs V r c i).1.set i (-1 - V.getD (bel bs (fxR bs V r c i).2 V.length).toNat default), dC bs (fxR bs V r c i).2) := by
 show (if _ then _ else _) = _
 rw [if_pos h, if_neg hV]
theorem fxR_stay {i : Nat} (h : ¬ (fxR bs V r c i).1.getD i default < 0) : fxR bs V r c (i + 1) = fxR bs V r c i := by
 show (if _ then _ else _) = _
 rw [if_neg h]
theorem fxR_len : ∀ i, (fxR bs V r c i).1.length = r.length
 | 0 => rfl
 | i + 1 => by
  have ih := fxR_len i
  rcases Classical.em ((fxR bs V r c i).1.getD i default < 0) with h | h
  ·rcases Classical.em (V = []) with hV | hV
   ·rw [fxR_two h hV]; simpa using ih
   ·rw [fxR_var h hV]; simpa using ih
  ·rw [fxR_stay h]; exact ih
theorem fxR_i (hc : c.i ≤ bs.length) : ∀ i, (fxR bs V r c i).2.i ≤ bs.length
 | 0 => hc
 | i + 1 => by
  have ih := fxR_i hc i
  rcases Classical.em ((fxR bs V r c i).1.getD i default < 0) with h | h
  ·rcases Classical.em (V = []) with hV | hV
   ·rw [fxR_two h hV]; exact ih
   ·rw [fxR_var h hV]; exact dC_i ih
  ·rw [fxR_stay h]; exact ih
end
attribute [local irreducible] fxR bel dC w9T StpE
def kp10 : List (Nat × List Nat) := [(0, [0]), (1, [0])]
attribute [go_sem] kp10
theorem w9Sig_fc : FC S 10 [] [] [] [] (.agg [.sl .any (([2, 1, 0] : List Int).map (.int .i64))]) [] [] := by
 refine fc_body Try.func10 rfl (by kernel_rfl) (by simp [Try.f10]) fun B => ?_
 simp only [Try.ntmps10, enumD, lst0, Nat.reduceAdd]
 repeat' first | refine sw_seq ?_ | refine sw_skip ?_ | refine sw_go 0 kp10 fun K hK => ?_ | refine fun (K : KT) (hK : KOk S 0 _ _ _ K) => ?_ | ((first | refine runL_go ?_ | refine sw_ret (ret0 ?_) | refine sw_ret ?_); simp (disch := (refine Om.mk ?_; omega)) only [go_sem, Try.results10]) | (refine hK.nil ?_; clear hK K; simp only [go_sem]) | refine sw_loopEnd ?_ | (with_reducible refine And.intro (by first | omega | (simp only [lens]; omega)) ?_) | ((with_reducible refine And.intro ?_ ?_); · first | (intro x hx; subst hx; rfl) | (intro x; refine And.intro ?_ ?_ <;> (intros; subst_vars; rfl))) | fail
 all_goals first | rfl | exact ⟨rfl, rfl⟩ | trace_state
def kp13 : List (Nat × List Nat) := [(0, [0, 2]), (1, [0, 2, 3]), (2, [0, 2, 3, 13]), (3, [0, 2, 3]), (4, [0, 2, 3, 4]), (5, [0, 2, 3, 4, 5]), (6, [0, 2, 3, 4, 5, 6]), (7, [0, 2, 3, 4, 5, 6, 29]), (9, [0, 2, 3, 4, 5, 6, 41]), (10, [0, 2, 3, 4, 5, 6]), (11, [0, 2, 3, 4, 5, 6, 49]), (12, [0, 2, 3, 4, 5, 6]), (8, [0, 2, 3, 4, 5, 6]), (13, [2])]
attribute [go_sem] kp13
theorem w9Rule_fc (bs : List Int) (hb : BytesP bs) (id : Nat) (c : Dc) (hc : c.i ≤ bs.length) : ∃ (x : RuleT) (c' : Dc), c'.i ≤ bs.length ∧ FC S 13 [] [(id + 1000, [.sl .any (bs.map (.int .u8)), .int .i64 (c).i, .int .u64 (c).h])] [] [.box (id + 1000) 0] (RuleD x) [(id + 1000, [.sl .any (bs.map (.int .u8)), .int .i64 (c').i, .int .u64 (c').h])] [] := by
 have t2 := w9Term_fc bs hb id 1 (by omega) c hc
 have l2 := w9T_len hb 2 c
 have i2 := w9T_i (bs := bs) 2 c hc
 rw [show (((1 : Nat) : Int) + 1) = 2 from rfl] at t2
 generalize w9T bs 2 c = p at *
 obtain ⟨u, c1⟩ := p
 dsimp only at t2 l2 i2
 have cB := below_fc (id + 1000) bs hb c1 i2 2 (by omega)
 have hB := bel_lt hb c1 (show (0 : Int) < 2 by omega)
 have i3 := dC_i i2
 generalize hb2 : bel bs c1 2 = b2 at *
 generalize dC bs c1 = c2 at *
 have hu : u ≠ [] := by rintro rfl; simp at l2
 rcases Classical.em (b2 = 0) with h0 | h0
 ·have t3 := w9Term_fc bs hb id 1 (by omega) c2 i3
  have l3 := w9T_len hb 2 c2
  have i3' := w9T_i (bs := bs) 2 c2 i3
  rw [show (((1 : Nat) : Int) + 1) = 2 from rfl] at t3
  generalize w9T bs 2 c2 = p at *
  obtain ⟨u2, c3⟩ := p
  dsimp only at t3 l3 i3'
  have t4 := w9Term_fc bs hb id 0 (by omega) c3 i3'
  have l4 := w9T_len hb 1 c3
  have i4 := w9T_i (bs := bs) 1 c3 i3'
  rw [show (((0 : Nat) : Int) + 1) = 1 from rfl] at t4
  generalize w9T bs 1 c3 = p at *
  obtain ⟨u3, c4⟩ := p
  dsimp only at t4 l4 i4
  have hu2 : u2 ≠ [] := by rintro rfl; simp at l3
  skip
  obtain ⟨V, hVl, hVr, cV⟩ := varsOfO_fc (.own 21000 2 1) [2, 1, 0] (0 :: (u2 ++ u3)) (by simp only [List.length_cons, List.length_append]; omega)
  have t5 := w9Term_fc bs hb id 2 (by omega) c4 i4
  have l5 := w9T_len hb 3 c4
  have i5 := w9T_i (bs := bs) 3 c4 i4
  rw [show (((2 : Nat) : Int) + 1) = 3 from rfl] at t5
  rw [show (4 : Nat) ^ 3 = 64 from rfl] at l5
  generalize w9T bs 3 c4 = q at *
  obtain ⟨r, c5⟩ := q
  dsimp only at t5 l5 i5
  have hne : r ≠ [] := by rintro rfl; simp at l5
  refine ⟨⟨0 :: (u2 ++ u3), (fxR bs V r c5 r.length).1⟩, (fxR bs V r c5 r.length).2, fxR_i i5 _, ?_⟩
  generalize hLL : 0 :: (u2 ++ u3) = LL at *
  refine fc_bodyP Try.func13 rfl (by kernel_rfl) (by simp [Try.f13]) fun B hP => ?_
  simp only [Try.ntmps13, enumD, lst0, Nat.reduceAdd]
  repeat' first | ((exfalso; omega)) | ((refine And.intro (map_neE hu) ?_)) | ((refine stop_atE 3 ?_)) | refine sw_seq ?_ | refine sw_block ?_ | refine sw_inBlock ?_ | refine sw_skip ?_ | refine sw_go 0 kp13 fun K hK => ?_ | refine fun (K : KT) (hK : KOk S 0 _ _ _ K) => ?_ | ((first | refine runL_go ?_ | refine sw_ret (ret0 ?_) | refine sw_ret ?_); simp (disch := (refine Om.mk ?_; omega)) only [go_sem, Try.results13]) | (refine hK.nil ?_; clear hK K; simp only [go_sem]) | ((first | refine runG_fork rfl rfl rfl rfl rfl ?_ ?_ | refine sw_cond rfl ?_ ?_) <;> intro h <;> try simp (disch := (refine Om.mk ?_; omega)) only [go_sem] at h) | refine hK.skp rfl rfl ?_ | refine sw_exit rfl ?_ | refine sw_loopEnd ?_ | (refine hK.callB rfl rfl rfl (t2) ⟨⟨by simp only [Nat.reduceLT], (by first | (simp; all_goals fail) | (simp [LS.getBox, Lg.look]; all_goals fail)), by (simp [Lg.look]; all_goals fail), by (simp; all_goals fail), by (simp; all_goals fail)⟩, ⟨by (simp [D.ids, D.idsL]; all_goals fail), by (simp [D.ids, D.idsL]; all_goals fail), by (simp [D.tks, D.tksL]; all_goals fail), by (simp [D.tks, D.tksL]; all_goals fail), by (simp; all_goals fail)⟩, rfl⟩ ?_; simp (disch := (refine Om.mk ?_; omega)) only [go_sem]) | (refine hK.callB rfl rfl rfl (cB) ⟨⟨by simp only [Nat.reduceLT], (by first | (simp; all_goals fail) | (simp [LS.getBox, Lg.look]; all_goals fail)), by (simp [Lg.look]; all_goals fail), by (simp; all_goals fail), by (simp; all_goals fail)⟩, ⟨by (simp [D.ids, D.idsL]; all_goals fail), by (simp [D.ids, D.idsL]; all_goals fail), by (simp [D.tks, D.tksL]; all_goals fail), by (simp [D.tks, D.tksL]; all_goals fail), by (simp; all_goals fail)⟩, rfl⟩ ?_; simp (disch := (refine Om.mk ?_; omega)) only [go_sem]) | (refine hK.fork rfl rfl rfl ?_ ?_ <;> intro h <;> try simp (disch := (refine Om.mk ?_; omega)) only [go_sem] at h) | (with_reducible refine And.intro (by first | omega | (simp only [lens]; omega)) ?_) | ((with_reducible refine And.intro ?_ ?_); · first | (intro x hx; subst hx; rfl) | (intro x; refine And.intro ?_ ?_ <;> (intros; subst_vars; rfl))) | fail
  unfold StpE
  repeat' first | ((exfalso; omega)) | ((refine And.intro (map_neE hu2) ?_)) | ((refine And.intro (List.mem_filter.2 ⟨by simp, by simp⟩) ?_)) | ((refine stop_atE 4 ?_)) | refine sw_seq ?_ | refine sw_block ?_ | refine sw_inBlock ?_ | refine sw_skip ?_ | refine sw_go 0 kp13 fun K hK => ?_ | refine fun (K : KT) (hK : KOk S 0 _ _ _ K) => ?_ | ((first | refine runL_go ?_ | refine sw_ret (ret0 ?_) | refine sw_ret ?_); simp (disch := (refine Om.mk ?_; omega)) only [go_sem, Try.results13]) | (refine hK.nil ?_; clear hK K; simp only [go_sem]) | ((first | refine runG_fork rfl rfl rfl rfl rfl ?_ ?_ | refine sw_cond rfl ?_ ?_) <;> intro h <;> try simp (disch := (refine Om.mk ?_; omega)) only [go_sem] at h) | refine hK.skp rfl rfl ?_ | refine sw_exit rfl ?_ | refine sw_loopEnd ?_ | (refine hK.callB rfl rfl rfl (t3) ⟨⟨by simp only [Nat.reduceLT], (by first | (simp; all_goals fail) | (simp [LS.getBox, Lg.look]; all_goals fail)), by (simp [Lg.look]; all_goals fail), by (simp; all_goals fail), by (simp; all_goals fail)⟩, ⟨by (simp [D.ids, D.idsL]; all_goals fail), by (simp [D.ids, D.idsL]; all_goals fail), by (simp [D.tks, D.tksL]; all_goals fail), by (simp [D.tks, D.tksL]; all_goals fail), by (simp; all_goals fail)⟩, rfl⟩ ?_; simp (disch := (refine Om.mk ?_; omega)) only [go_sem]) | (refine hK.callB rfl rfl rfl (t4) ⟨⟨by simp only [Nat.reduceLT], (by first | (simp; all_goals fail) | (simp [LS.getBox, Lg.look]; all_goals fail)), by (simp [Lg.look]; all_goals fail), by (simp; all_goals fail), by (simp; all_goals fail)⟩, ⟨by (simp [D.ids, D.idsL]; all_goals fail), by (simp [D.ids, D.idsL]; all_goals fail), by (simp [D.tks, D.tksL]; all_goals fail), by (simp [D.tks, D.tksL]; all_goals fail), by (simp; all_goals fail)⟩, rfl⟩ ?_; simp (disch := (refine Om.mk ?_; omega)) only [go_sem]) | (refine hK.fork rfl rfl rfl ?_ ?_ <;> intro h <;> try simp (disch := (refine Om.mk ?_; omega)) only [go_sem] at h) | (with_reducible refine And.intro (by first | omega | (simp only [lens]; omega)) ?_) | ((with_reducible refine And.intro ?_ ?_); · first | (intro x hx; subst hx; rfl) | (intro x; refine And.intro ?_ ?_ <;> (intros; subst_vars; rfl))) | fail
  unfold StpE
  rw [map_E1 hLL]
  repeat' first | ((exfalso; omega)) | ((refine stop_atE 6 ?_)) | refine sw_seq ?_ | refine sw_block ?_ | refine sw_inBlock ?_ | refine sw_skip ?_ | refine sw_go 0 kp13 fun K hK => ?_ | refine fun (K : KT) (hK : KOk S 0 _ _ _ K) => ?_ | ((first | refine runL_go ?_ | refine sw_ret (ret0 ?_) | refine sw_ret ?_); simp (disch := (refine Om.mk ?_; omega)) only [go_sem, Try.results13]) | (refine hK.nil ?_; clear hK K; simp only [go_sem]) | ((first | refine runG_fork rfl rfl rfl rfl rfl ?_ ?_ | refine sw_cond rfl ?_ ?_) <;> intro h <;> try simp (disch := (refine Om.mk ?_; omega)) only [go_sem] at h) | refine hK.skp rfl rfl ?_ | refine sw_exit rfl ?_ | refine sw_loopEnd ?_ | refine hK.c0 rfl rfl rfl (w9Sig_fc) rfl rfl rfl ?_ | (refine hK.callB rfl rfl rfl (cV) ⟨⟨by simp only [Nat.reduceLT], (by first | (simp; all_goals fail) | (simp [LS.getBox, Lg.look]; all_goals fail)), by (simp [Lg.look]; all_goals fail), by (simp; all_goals fail), by (simp; all_goals fail)⟩, ⟨by (simp [D.ids, D.idsL]; all_goals fail), by (simp [D.ids, D.idsL]; all_goals fail), by (simp [D.tks, D.tksL]; all_goals fail), by (simp [D.tks, D.tksL]; all_goals fail), by (simp; all_goals fail)⟩, rfl⟩ ?_; simp (disch := (refine Om.mk ?_; omega)) only [go_sem]) | (refine hK.callB rfl rfl rfl (t5) ⟨⟨by simp only [Nat.reduceLT], (by first | (simp; all_goals fail) | (simp [LS.getBox, Lg.look]; all_goals fail)), by (simp [Lg.look]; all_goals fail), by (simp; all_goals fail), by (simp; all_goals fail)⟩, ⟨by (simp [D.ids, D.idsL]; all_goals fail), by (simp [D.ids, D.idsL]; all_goals fail), by (simp [D.tks, D.tksL]; all_goals fail), by (simp [D.tks, D.tksL]; all_goals fail), by (simp; all_goals fail)⟩, rfl⟩ ?_; simp (disch := (refine Om.mk ?_; omega)) only [go_sem]) | (refine hK.fork rfl rfl rfl ?_ ?_ <;> intro h <;> try simp (disch := (refine Om.mk ?_; omega)) only [go_sem] at h) | (with_reducible refine And.intro (by first | omega | (simp only [lens]; omega)) ?_) | ((with_reducible refine And.intro ?_ ?_); · first | (intro x hx; subst hx; rfl) | (intro x; refine And.intro ?_ ?_ <;> (intros; subst_vars; rfl))) | fail
  unfold StpE
  refine sw_thawAt 6 5 500 rfl (by simp) hne (by simp only [List.mem_cons, List.not_mem_nil, or_false]; omega) hP [(0, .box (id + 1000) 0), (2, .box 2 0), (3, .sl (.own 21000 2 1) (LL.map (.int .i64))), (4, .sl (.own 24000 2 1) (V.map (.int .i64)))] [(id + 1000, [.sl .any (bs.map (.int .u8)), .int .i64 (c5).i, .int .u64 (c5).h]), (2, [.sl .nil [], .sl .nil []])] (by intro q hq; simp only [List.mem_cons, List.not_mem_nil, or_false] at hq; rcases hq with rfl | rfl | rfl | rfl <;> exact ⟨rfl, by simp [D.safeI, safeIL_intsE], by simp [D.ids, D.idsL, idsL_intsE]⟩) (by intro q hq; simp only [List.mem_cons, List.not_mem_nil, or_false] at hq; rcases hq with rfl | rfl <;> exact ⟨by first | omega | (show id + 1000 ≠ 500; omega), by simp [Lg.look], by simp [D.safeIL, D.safeI, D.offIL, offI_u8E, safeIL_intsE], by simp [D.idsL, D.ids, idsL_intsE]⟩) ?_
  simp only [go_sem]
  repeat' first | ((exfalso; omega)) | refine sw_seq ?_ | refine sw_block ?_ | refine sw_inBlock ?_ | refine sw_skip ?_ | refine sw_go 0 kp13 fun K hK => ?_ | refine fun (K : KT) (hK : KOk S 0 _ _ _ K) => ?_ | ((first | refine runL_go ?_ | refine sw_ret (ret0 ?_) | refine sw_ret ?_); simp (disch := (refine Om.mk ?_; omega)) only [go_sem, Try.results13]) | (refine hK.nil ?_; clear hK K; simp only [go_sem]) | ((first | refine runG_fork rfl rfl rfl rfl rfl ?_ ?_ | refine sw_cond rfl ?_ ?_) <;> intro h <;> try simp (disch := (refine Om.mk ?_; omega)) only [go_sem] at h) | refine hK.skp rfl rfl ?_ | refine sw_exit rfl ?_ | refine sw_loopEnd ?_ | (refine hK.fork rfl rfl rfl ?_ ?_ <;> intro h <;> try simp (disch := (refine Om.mk ?_; omega)) only [go_sem] at h) | (with_reducible refine And.intro (by first | omega | (simp only [lens]; omega)) ?_) | ((with_reducible refine And.intro ?_ ?_); · first | (intro x hx; subst hx; rfl) | (intro x; refine And.intro ?_ ?_ <;> (intros; subst_vars; rfl))) | fail
  refine sw_loopT (ι := Nat) (fun i => [(6, .int .i64 i)]) (fun i => [(500, (fxR bs V r c5 i).1.map (.int .i64)), (id + 1000, [.sl .any (bs.map (.int .u8)), .int .i64 ((fxR bs V r c5 i).2).i, .int .u64 ((fxR bs V r c5 i).2).h])]) (fun _ => [24000, 21000]) (fun i => i ≤ r.length) (fun i => r.length - i) 0 (by rw [fxR_z]; (refine covers_mk0 rfl rfl ?_ ?_ ?_ ?_ <;> simp (disch := (refine Om.mk ?_; omega)) only [go_sem] <;> (try omega)); all_goals first | rfl | exact ⟨rfl, rfl⟩ | (simp; done) | trace_state) (by omega) (fun i hi => ?_)
  simp only [go_sem]
  have hfl := fxR_len (bs := bs) (V := V) (r := r) (c := c5) i
  have hfi := fxR_i (V := V) (r := r) i5 i
  by_cases hil : i < r.length
  ·by_cases hneg : (fxR bs V r c5 i).1.getD i default < 0
   ·by_cases hV : V = []
    ·have e := fxR_two hneg hV
     have hV0 : V.length = 0 := by rw [hV]; rfl
     generalize fxR bs V r c5 i = z at *
     repeat' first | ((exfalso; omega)) | refine sw_seq ?_ | refine sw_block ?_ | refine sw_inBlock ?_ | refine sw_skip ?_ | refine sw_go 0 kp13 fun K hK => ?_ | refine fun (K : KT) (hK : KOk S 0 _ _ _ K) => ?_ | ((first | refine runL_go ?_ | refine sw_ret (ret0 ?_) | refine sw_ret ?_); simp (disch := (refine Om.mk ?_; omega)) only [go_sem, Try.results13]) | (refine hK.nil ?_; clear hK K; simp only [go_sem]) | ((first | refine runG_fork rfl rfl rfl rfl rfl ?_ ?_ | refine sw_cond rfl ?_ ?_) <;> intro h <;> try simp (disch := (refine Om.mk ?_; omega)) only [go_sem] at h) | refine hK.skp rfl rfl ?_ | refine sw_exit rfl ?_ | refine sw_loopEnd ?_ | (refine hK.fork rfl rfl rfl ?_ ?_ <;> intro h <;> try simp (disch := (refine Om.mk ?_; omega)) only [go_sem] at h) | (with_reducible refine And.intro (by first | omega | (simp only [lens]; omega)) ?_) | ((with_reducible refine And.intro ?_ ?_); · first | (intro x hx; subst hx; rfl) | (intro x; refine And.intro ?_ ?_ <;> (intros; subst_vars; rfl))) | fail
     all_goals exact ⟨i + 1, (by rw [e]; (refine covers_mk0 rfl rfl ?_ ?_ ?_ ?_ <;> simp (disch := (refine Om.mk ?_; omega)) only [go_sem] <;> (try omega)); all_goals first | (simp; done) | trace_state), by omega, by omega⟩
    ·have e := fxR_var hneg hV
     have hV0 : 0 < V.length := List.length_pos_iff.2 hV
     have cb := below_fc (id + 1000) bs hb (fxR bs V r c5 i).2 hfi V.length (by omega)
     have hbl := bel_lt hb (fxR bs V r c5 i).2 (show (0 : Int) < V.length by omega)
     obtain ⟨m, hm, hml⟩ : ∃ m : Nat, bel bs (fxR bs V r c5 i).2 V.length = (m : Int) ∧ m < V.length := ⟨(bel bs (fxR bs V r c5 i).2 V.length).toNat, by omega, by omega⟩
     have hvm := hVr _ (getD_mem V m hml)
     rw [hm] at cb e
     rw [Int.toNat_natCast] at e
     generalize fxR bs V r c5 i = z at *
     repeat' first | ((exfalso; omega)) | ((refine hK.callB rfl rfl rfl (cb) ⟨⟨by simp only [Nat.reduceLT], (by simp), (by simp [Lg.look]), (by simp), (by simp)⟩, ⟨by simp [D.ids, D.idsL, idsL_intsE], by simp [D.ids, D.idsL, idsL_intsE], by simp [D.tks, D.tksL, tksE], by simp [D.tks, D.tksL, tksE], by simp⟩, (by simp [LS.clean, D.puOk, D.pu, D.pu1, D.tks, D.tksL, tksE, puOkE, inTok])⟩ ?_; simp (disch := (refine Om.mk ?_; omega)) only [go_sem])) | refine sw_seq ?_ | refine sw_block ?_ | refine sw_inBlock ?_ | refine sw_skip ?_ | refine sw_go 0 kp13 fun K hK => ?_ | refine fun (K : KT) (hK : KOk S 0 _ _ _ K) => ?_ | ((first | refine runL_go ?_ | refine sw_ret (ret0 ?_) | refine sw_ret ?_); simp (disch := (refine Om.mk ?_; omega)) only [go_sem, Try.results13]) | (refine hK.nil ?_; clear hK K; simp only [go_sem]) | ((first | refine runG_fork rfl rfl rfl rfl rfl ?_ ?_ | refine sw_cond rfl ?_ ?_) <;> intro h <;> try simp (disch := (refine Om.mk ?_; omega)) only [go_sem] at h) | refine hK.skp rfl rfl ?_ | refine sw_exit rfl ?_ | refine sw_loopEnd ?_ | (refine hK.fork rfl rfl rfl ?_ ?_ <;> intro h <;> try simp (disch := (refine Om.mk ?_; omega)) only [go_sem] at h) | (with_reducible refine And.intro (by first | omega | (simp only [lens]; omega)) ?_) | ((with_reducible refine And.intro ?_ ?_); · first | (intro x hx; subst hx; rfl) | (intro x; refine And.intro ?_ ?_ <;> (intros; subst_vars; rfl))) | fail
     all_goals exact ⟨i + 1, (by rw [e]; (refine covers_mk0 rfl rfl ?_ ?_ ?_ ?_ <;> simp (disch := (refine Om.mk ?_; omega)) only [go_sem] <;> (try omega)); all_goals first | (simp; done) | trace_state), by omega, by omega⟩
   ·have e := fxR_stay hneg
    generalize fxR bs V r c5 i = z at *
    repeat' first | ((exfalso; omega)) | refine sw_seq ?_ | refine sw_block ?_ | refine sw_inBlock ?_ | refine sw_skip ?_ | refine sw_go 0 kp13 fun K hK => ?_ | refine fun (K : KT) (hK : KOk S 0 _ _ _ K) => ?_ | ((first | refine runL_go ?_ | refine sw_ret (ret0 ?_) | refine sw_ret ?_); simp (disch := (refine Om.mk ?_; omega)) only [go_sem, Try.results13]) | (refine hK.nil ?_; clear hK K; simp only [go_sem]) | ((first | refine runG_fork rfl rfl rfl rfl rfl ?_ ?_ | refine sw_cond rfl ?_ ?_) <;> intro h <;> try simp (disch := (refine Om.mk ?_; omega)) only [go_sem] at h) | refine hK.skp rfl rfl ?_ | refine sw_exit rfl ?_ | refine sw_loopEnd ?_ | (refine hK.fork rfl rfl rfl ?_ ?_ <;> intro h <;> try simp (disch := (refine Om.mk ?_; omega)) only [go_sem] at h) | (with_reducible refine And.intro (by first | omega | (simp only [lens]; omega)) ?_) | ((with_reducible refine And.intro ?_ ?_); · first | (intro x hx; subst hx; rfl) | (intro x; refine And.intro ?_ ?_ <;> (intros; subst_vars; rfl))) | fail
    all_goals exact ⟨i + 1, (by rw [e]; (refine covers_mk0 rfl rfl ?_ ?_ ?_ ?_ <;> simp (disch := (refine Om.mk ?_; omega)) only [go_sem] <;> (try omega)); all_goals first | (simp; done) | trace_state), by omega, by omega⟩
  ·obtain rfl : i = r.length := by omega
   repeat' first | ((exfalso; omega)) | ((refine sw_goAt (id := 13) 0 kp13 0 rfl fun K hK => ?_)) | refine sw_seq ?_ | refine sw_block ?_ | refine sw_inBlock ?_ | refine sw_skip ?_ | refine sw_go 0 kp13 fun K hK => ?_ | refine fun (K : KT) (hK : KOk S 0 _ _ _ K) => ?_ | ((first | refine runL_go ?_ | refine sw_ret (ret0 ?_) | refine sw_ret ?_); simp (disch := (refine Om.mk ?_; omega)) only [go_sem, Try.results13]) | (refine hK.nil ?_; clear hK K; simp only [go_sem]) | ((first | refine runG_fork rfl rfl rfl rfl rfl ?_ ?_ | refine sw_cond rfl ?_ ?_) <;> intro h <;> try simp (disch := (refine Om.mk ?_; omega)) only [go_sem] at h) | refine hK.skp rfl rfl ?_ | refine sw_exit rfl ?_ | refine sw_loopEnd ?_ | (refine hK.fork rfl rfl rfl ?_ ?_ <;> intro h <;> try simp (disch := (refine Om.mk ?_; omega)) only [go_sem] at h) | (with_reducible refine And.intro (by first | omega | (simp only [lens]; omega)) ?_) | ((with_reducible refine And.intro ?_ ?_); · first | (intro x hx; subst hx; rfl) | (intro x; refine And.intro ?_ ?_ <;> (intros; subst_vars; rfl))) | fail
   refine lops_freeze 5 1 .any (id := 500) (n := r.length) (cs := ((fxR bs V r c5 r.length).1.map (.int .i64))) ((fxR bs V r c5 r.length).1.map (.int .i64)) (by simp [Lg.look]) (by simp [Lg.look]) (flat_ints _).symm (by rw [List.length_map, fxR_len]) (cells_one fun _ => rfl) (memOk_ints _) (.inl rfl) ?_
   simp only [go_sem]
   refine lops_go 0 ?_
   refine fun (K : List Oper → LS → Prop) (hK : KOk S 0 _ _ _ K) => ?_
   simp only [go_sem]
   repeat' first | refine sw_seq ?_ | refine sw_block ?_ | refine sw_inBlock ?_ | refine sw_skip ?_ | refine sw_go 0 kp13 fun K hK => ?_ | refine fun (K : KT) (hK : KOk S 0 _ _ _ K) => ?_ | ((first | refine runL_go ?_ | refine sw_ret (ret0 ?_) | refine sw_ret ?_); simp (disch := (refine Om.mk ?_; omega)) only [go_sem, Try.results13]) | (refine hK.nil ?_; clear hK K; simp only [go_sem]) | ((first | refine runG_fork rfl rfl rfl rfl rfl ?_ ?_ | refine sw_cond rfl ?_ ?_) <;> intro h <;> try simp (disch := (refine Om.mk ?_; omega)) only [go_sem] at h) | refine hK.skp rfl rfl ?_ | refine sw_exit rfl ?_ | refine sw_loopEnd ?_ | (refine hK.fork rfl rfl rfl ?_ ?_ <;> intro h <;> try simp (disch := (refine Om.mk ?_; omega)) only [go_sem] at h) | (with_reducible refine And.intro (by first | omega | (simp only [lens]; omega)) ?_) | ((with_reducible refine And.intro ?_ ?_); · first | (intro x hx; subst hx; rfl) | (intro x; refine And.intro ?_ ?_ <;> (intros; subst_vars; rfl))) | fail
   all_goals first | rfl | exact ⟨rfl, rfl⟩ | trace_state
 ·skip
  obtain ⟨V, hVl, hVr, cV⟩ := varsOfO_fc (.own 11000 2 1) [2, 1, 0] (1 :: u) (by simp only [List.length_cons, List.length_append]; omega)
  have t5 := w9Term_fc bs hb id 2 (by omega) c2 i3
  have l5 := w9T_len hb 3 c2
  have i5 := w9T_i (bs := bs) 3 c2 i3
  rw [show (((2 : Nat) : Int) + 1) = 3 from rfl] at t5
  rw [show (4 : Nat) ^ 3 = 64 from rfl] at l5
  generalize w9T bs 3 c2 = q at *
  obtain ⟨r, c5⟩ := q
  dsimp only at t5 l5 i5
  have hne : r ≠ [] := by rintro rfl; simp at l5
  refine ⟨⟨1 :: u, (fxR bs V r c5 r.length).1⟩, (fxR bs V r c5 r.length).2, fxR_i i5 _, ?_⟩
  generalize hLL : 1 :: u = LL at *
  refine fc_bodyP Try.func13 rfl (by kernel_rfl) (by simp [Try.f13]) fun B hP => ?_
  simp only [Try.ntmps13, enumD, lst0, Nat.reduceAdd]
  repeat' first | ((exfalso; omega)) | ((refine And.intro (map_neE hu) ?_)) | ((refine stop_atE 4 ?_)) | refine sw_seq ?_ | refine sw_block ?_ | refine sw_inBlock ?_ | refine sw_skip ?_ | refine sw_go 0 kp13 fun K hK => ?_ | refine fun (K : KT) (hK : KOk S 0 _ _ _ K) => ?_ | ((first | refine runL_go ?_ | refine sw_ret (ret0 ?_) | refine sw_ret ?_); simp (disch := (refine Om.mk ?_; omega)) only [go_sem, Try.results13]) | (refine hK.nil ?_; clear hK K; simp only [go_sem]) | ((first | refine runG_fork rfl rfl rfl rfl rfl ?_ ?_ | refine sw_cond rfl ?_ ?_) <;> intro h <;> try simp (disch := (refine Om.mk ?_; omega)) only [go_sem] at h) | refine hK.skp rfl rfl ?_ | refine sw_exit rfl ?_ | refine sw_loopEnd ?_ | (refine hK.callB rfl rfl rfl (t2) ⟨⟨by simp only [Nat.reduceLT], (by first | (simp; all_goals fail) | (simp [LS.getBox, Lg.look]; all_goals fail)), by (simp [Lg.look]; all_goals fail), by (simp; all_goals fail), by (simp; all_goals fail)⟩, ⟨by (simp [D.ids, D.idsL]; all_goals fail), by (simp [D.ids, D.idsL]; all_goals fail), by (simp [D.tks, D.tksL]; all_goals fail), by (simp [D.tks, D.tksL]; all_goals fail), by (simp; all_goals fail)⟩, rfl⟩ ?_; simp (disch := (refine Om.mk ?_; omega)) only [go_sem]) | (refine hK.callB rfl rfl rfl (cB) ⟨⟨by simp only [Nat.reduceLT], (by first | (simp; all_goals fail) | (simp [LS.getBox, Lg.look]; all_goals fail)), by (simp [Lg.look]; all_goals fail), by (simp; all_goals fail), by (simp; all_goals fail)⟩, ⟨by (simp [D.ids, D.idsL]; all_goals fail), by (simp [D.ids, D.idsL]; all_goals fail), by (simp [D.tks, D.tksL]; all_goals fail), by (simp [D.tks, D.tksL]; all_goals fail), by (simp; all_goals fail)⟩, rfl⟩ ?_; simp (disch := (refine Om.mk ?_; omega)) only [go_sem]) | (refine hK.fork rfl rfl rfl ?_ ?_ <;> intro h <;> try simp (disch := (refine Om.mk ?_; omega)) only [go_sem] at h) | (with_reducible refine And.intro (by first | omega | (simp only [lens]; omega)) ?_) | ((with_reducible refine And.intro ?_ ?_); · first | (intro x hx; subst hx; rfl) | (intro x; refine And.intro ?_ ?_ <;> (intros; subst_vars; rfl))) | fail
  unfold StpE
  rw [map_E1 hLL]
  repeat' first | ((exfalso; omega)) | ((refine stop_atE 6 ?_)) | refine sw_seq ?_ | refine sw_block ?_ | refine sw_inBlock ?_ | refine sw_skip ?_ | refine sw_go 0 kp13 fun K hK => ?_ | refine fun (K : KT) (hK : KOk S 0 _ _ _ K) => ?_ | ((first | refine runL_go ?_ | refine sw_ret (ret0 ?_) | refine sw_ret ?_); simp (disch := (refine Om.mk ?_; omega)) only [go_sem, Try.results13]) | (refine hK.nil ?_; clear hK K; simp only [go_sem]) | ((first | refine runG_fork rfl rfl rfl rfl rfl ?_ ?_ | refine sw_cond rfl ?_ ?_) <;> intro h <;> try simp (disch := (refine Om.mk ?_; omega)) only [go_sem] at h) | refine hK.skp rfl rfl ?_ | refine sw_exit rfl ?_ | refine sw_loopEnd ?_ | refine hK.c0 rfl rfl rfl (w9Sig_fc) rfl rfl rfl ?_ | (refine hK.callB rfl rfl rfl (cV) ⟨⟨by simp only [Nat.reduceLT], (by first | (simp; all_goals fail) | (simp [LS.getBox, Lg.look]; all_goals fail)), by (simp [Lg.look]; all_goals fail), by (simp; all_goals fail), by (simp; all_goals fail)⟩, ⟨by (simp [D.ids, D.idsL]; all_goals fail), by (simp [D.ids, D.idsL]; all_goals fail), by (simp [D.tks, D.tksL]; all_goals fail), by (simp [D.tks, D.tksL]; all_goals fail), by (simp; all_goals fail)⟩, rfl⟩ ?_; simp (disch := (refine Om.mk ?_; omega)) only [go_sem]) | (refine hK.callB rfl rfl rfl (t5) ⟨⟨by simp only [Nat.reduceLT], (by first | (simp; all_goals fail) | (simp [LS.getBox, Lg.look]; all_goals fail)), by (simp [Lg.look]; all_goals fail), by (simp; all_goals fail), by (simp; all_goals fail)⟩, ⟨by (simp [D.ids, D.idsL]; all_goals fail), by (simp [D.ids, D.idsL]; all_goals fail), by (simp [D.tks, D.tksL]; all_goals fail), by (simp [D.tks, D.tksL]; all_goals fail), by (simp; all_goals fail)⟩, rfl⟩ ?_; simp (disch := (refine Om.mk ?_; omega)) only [go_sem]) | (refine hK.fork rfl rfl rfl ?_ ?_ <;> intro h <;> try simp (disch := (refine Om.mk ?_; omega)) only [go_sem] at h) | (with_reducible refine And.intro (by first | omega | (simp only [lens]; omega)) ?_) | ((with_reducible refine And.intro ?_ ?_); · first | (intro x hx; subst hx; rfl) | (intro x; refine And.intro ?_ ?_ <;> (intros; subst_vars; rfl))) | fail
  unfold StpE
  refine sw_thawAt 6 5 500 rfl (by simp) hne (by simp only [List.mem_cons, List.not_mem_nil, or_false]; omega) hP [(0, .box (id + 1000) 0), (2, .box 2 0), (3, .sl (.own 11000 2 1) (LL.map (.int .i64))), (4, .sl (.own 24000 2 1) (V.map (.int .i64)))] [(id + 1000, [.sl .any (bs.map (.int .u8)), .int .i64 (c5).i, .int .u64 (c5).h]), (2, [.sl .nil [], .sl .nil []])] (by intro q hq; simp only [List.mem_cons, List.not_mem_nil, or_false] at hq; rcases hq with rfl | rfl | rfl | rfl <;> exact ⟨rfl, by simp [D.safeI, safeIL_intsE], by simp [D.ids, D.idsL, idsL_intsE]⟩) (by intro q hq; simp only [List.mem_cons, List.not_mem_nil, or_false] at hq; rcases hq with rfl | rfl <;> exact ⟨by first | omega | (show id + 1000 ≠ 500; omega), by simp [Lg.look], by simp [D.safeIL, D.safeI, D.offIL, offI_u8E, safeIL_intsE], by simp [D.idsL, D.ids, idsL_intsE]⟩) ?_
  simp only [go_sem]
  repeat' first | ((exfalso; omega)) | refine sw_seq ?_ | refine sw_block ?_ | refine sw_inBlock ?_ | refine sw_skip ?_ | refine sw_go 0 kp13 fun K hK => ?_ | refine fun (K : KT) (hK : KOk S 0 _ _ _ K) => ?_ | ((first | refine runL_go ?_ | refine sw_ret (ret0 ?_) | refine sw_ret ?_); simp (disch := (refine Om.mk ?_; omega)) only [go_sem, Try.results13]) | (refine hK.nil ?_; clear hK K; simp only [go_sem]) | ((first | refine runG_fork rfl rfl rfl rfl rfl ?_ ?_ | refine sw_cond rfl ?_ ?_) <;> intro h <;> try simp (disch := (refine Om.mk ?_; omega)) only [go_sem] at h) | refine hK.skp rfl rfl ?_ | refine sw_exit rfl ?_ | refine sw_loopEnd ?_ | (refine hK.fork rfl rfl rfl ?_ ?_ <;> intro h <;> try simp (disch := (refine Om.mk ?_; omega)) only [go_sem] at h) | (with_reducible refine And.intro (by first | omega | (simp only [lens]; omega)) ?_) | ((with_reducible refine And.intro ?_ ?_); · first | (intro x hx; subst hx; rfl) | (intro x; refine And.intro ?_ ?_ <;> (intros; subst_vars; rfl))) | fail
  refine sw_loopT (ι := Nat) (fun i => [(6, .int .i64 i)]) (fun i => [(500, (fxR bs V r c5 i).1.map (.int .i64)), (id + 1000, [.sl .any (bs.map (.int .u8)), .int .i64 ((fxR bs V r c5 i).2).i, .int .u64 ((fxR bs V r c5 i).2).h])]) (fun _ => [24000, 11000]) (fun i => i ≤ r.length) (fun i => r.length - i) 0 (by rw [fxR_z]; (refine covers_mk0 rfl rfl ?_ ?_ ?_ ?_ <;> simp (disch := (refine Om.mk ?_; omega)) only [go_sem] <;> (try omega)); all_goals first | rfl | exact ⟨rfl, rfl⟩ | (simp; done) | trace_state) (by omega) (fun i hi => ?_)
  simp only [go_sem]
  have hfl := fxR_len (bs := bs) (V := V) (r := r) (c := c5) i
  have hfi := fxR_i (V := V) (r := r) i5 i
  by_cases hil : i < r.length
  ·by_cases hneg : (fxR bs V r c5 i).1.getD i default < 0
   ·by_cases hV : V = []
    ·have e := fxR_two hneg hV
     have hV0 : V.length = 0 := by rw [hV]; rfl
     generalize fxR bs V r c5 i = z at *
     repeat' first | ((exfalso; omega)) | refine sw_seq ?_ | refine sw_block ?_ | refine sw_inBlock ?_ | refine sw_skip ?_ | refine sw_go 0 kp13 fun K hK => ?_ | refine fun (K : KT) (hK : KOk S 0 _ _ _ K) => ?_ | ((first | refine runL_go ?_ | refine sw_ret (ret0 ?_) | refine sw_ret ?_); simp (disch := (refine Om.mk ?_; omega)) only [go_sem, Try.results13]) | (refine hK.nil ?_; clear hK K; simp only [go_sem]) | ((first | refine runG_fork rfl rfl rfl rfl rfl ?_ ?_ | refine sw_cond rfl ?_ ?_) <;> intro h <;> try simp (disch := (refine Om.mk ?_; omega)) only [go_sem] at h) | refine hK.skp rfl rfl ?_ | refine sw_exit rfl ?_ | refine sw_loopEnd ?_ | (refine hK.fork rfl rfl rfl ?_ ?_ <;> intro h <;> try simp (disch := (refine Om.mk ?_; omega)) only [go_sem] at h) | (with_reducible refine And.intro (by first | omega | (simp only [lens]; omega)) ?_) | ((with_reducible refine And.intro ?_ ?_); · first | (intro x hx; subst hx; rfl) | (intro x; refine And.intro ?_ ?_ <;> (intros; subst_vars; rfl))) | fail
     all_goals exact ⟨i + 1, (by rw [e]; (refine covers_mk0 rfl rfl ?_ ?_ ?_ ?_ <;> simp (disch := (refine Om.mk ?_; omega)) only [go_sem] <;> (try omega)); all_goals first | (simp; done) | trace_state), by omega, by omega⟩
    ·have e := fxR_var hneg hV
     have hV0 : 0 < V.length := List.length_pos_iff.2 hV
     have cb := below_fc (id + 1000) bs hb (fxR bs V r c5 i).2 hfi V.length (by omega)
     have hbl := bel_lt hb (fxR bs V r c5 i).2 (show (0 : Int) < V.length by omega)
     obtain ⟨m, hm, hml⟩ : ∃ m : Nat, bel bs (fxR bs V r c5 i).2 V.length = (m : Int) ∧ m < V.length := ⟨(bel bs (fxR bs V r c5 i).2 V.length).toNat, by omega, by omega⟩
     have hvm := hVr _ (getD_mem V m hml)
     rw [hm] at cb e
     rw [Int.toNat_natCast] at e
     generalize fxR bs V r c5 i = z at *
     repeat' first | ((exfalso; omega)) | ((refine hK.callB rfl rfl rfl (cb) ⟨⟨by simp only [Nat.reduceLT], (by simp), (by simp [Lg.look]), (by simp), (by simp)⟩, ⟨by simp [D.ids, D.idsL, idsL_intsE], by simp [D.ids, D.idsL, idsL_intsE], by simp [D.tks, D.tksL, tksE], by simp [D.tks, D.tksL, tksE], by simp⟩, (by simp [LS.clean, D.puOk, D.pu, D.pu1, D.tks, D.tksL, tksE, puOkE, inTok])⟩ ?_; simp (disch := (refine Om.mk ?_; omega)) only [go_sem])) | refine sw_seq ?_ | refine sw_block ?_ | refine sw_inBlock ?_ | refine sw_skip ?_ | refine sw_go 0 kp13 fun K hK => ?_ | refine fun (K : KT) (hK : KOk S 0 _ _ _ K) => ?_ | ((first | refine runL_go ?_ | refine sw_ret (ret0 ?_) | refine sw_ret ?_); simp (disch := (refine Om.mk ?_; omega)) only [go_sem, Try.results13]) | (refine hK.nil ?_; clear hK K; simp only [go_sem]) | ((first | refine runG_fork rfl rfl rfl rfl rfl ?_ ?_ | refine sw_cond rfl ?_ ?_) <;> intro h <;> try simp (disch := (refine Om.mk ?_; omega)) only [go_sem] at h) | refine hK.skp rfl rfl ?_ | refine sw_exit rfl ?_ | refine sw_loopEnd ?_ | (refine hK.fork rfl rfl rfl ?_ ?_ <;> intro h <;> try simp (disch := (refine Om.mk ?_; omega)) only [go_sem] at h) | (with_reducible refine And.intro (by first | omega | (simp only [lens]; omega)) ?_) | ((with_reducible refine And.intro ?_ ?_); · first | (intro x hx; subst hx; rfl) | (intro x; refine And.intro ?_ ?_ <;> (intros; subst_vars; rfl))) | fail
     all_goals exact ⟨i + 1, (by rw [e]; (refine covers_mk0 rfl rfl ?_ ?_ ?_ ?_ <;> simp (disch := (refine Om.mk ?_; omega)) only [go_sem] <;> (try omega)); all_goals first | (simp; done) | trace_state), by omega, by omega⟩
   ·have e := fxR_stay hneg
    generalize fxR bs V r c5 i = z at *
    repeat' first | ((exfalso; omega)) | refine sw_seq ?_ | refine sw_block ?_ | refine sw_inBlock ?_ | refine sw_skip ?_ | refine sw_go 0 kp13 fun K hK => ?_ | refine fun (K : KT) (hK : KOk S 0 _ _ _ K) => ?_ | ((first | refine runL_go ?_ | refine sw_ret (ret0 ?_) | refine sw_ret ?_); simp (disch := (refine Om.mk ?_; omega)) only [go_sem, Try.results13]) | (refine hK.nil ?_; clear hK K; simp only [go_sem]) | ((first | refine runG_fork rfl rfl rfl rfl rfl ?_ ?_ | refine sw_cond rfl ?_ ?_) <;> intro h <;> try simp (disch := (refine Om.mk ?_; omega)) only [go_sem] at h) | refine hK.skp rfl rfl ?_ | refine sw_exit rfl ?_ | refine sw_loopEnd ?_ | (refine hK.fork rfl rfl rfl ?_ ?_ <;> intro h <;> try simp (disch := (refine Om.mk ?_; omega)) only [go_sem] at h) | (with_reducible refine And.intro (by first | omega | (simp only [lens]; omega)) ?_) | ((with_reducible refine And.intro ?_ ?_); · first | (intro x hx; subst hx; rfl) | (intro x; refine And.intro ?_ ?_ <;> (intros; subst_vars; rfl))) | fail
    all_goals exact ⟨i + 1, (by rw [e]; (refine covers_mk0 rfl rfl ?_ ?_ ?_ ?_ <;> simp (disch := (refine Om.mk ?_; omega)) only [go_sem] <;> (try omega)); all_goals first | (simp; done) | trace_state), by omega, by omega⟩
  ·obtain rfl : i = r.length := by omega
   repeat' first | ((exfalso; omega)) | ((refine sw_goAt (id := 13) 0 kp13 0 rfl fun K hK => ?_)) | refine sw_seq ?_ | refine sw_block ?_ | refine sw_inBlock ?_ | refine sw_skip ?_ | refine sw_go 0 kp13 fun K hK => ?_ | refine fun (K : KT) (hK : KOk S 0 _ _ _ K) => ?_ | ((first | refine runL_go ?_ | refine sw_ret (ret0 ?_) | refine sw_ret ?_); simp (disch := (refine Om.mk ?_; omega)) only [go_sem, Try.results13]) | (refine hK.nil ?_; clear hK K; simp only [go_sem]) | ((first | refine runG_fork rfl rfl rfl rfl rfl ?_ ?_ | refine sw_cond rfl ?_ ?_) <;> intro h <;> try simp (disch := (refine Om.mk ?_; omega)) only [go_sem] at h) | refine hK.skp rfl rfl ?_ | refine sw_exit rfl ?_ | refine sw_loopEnd ?_ | (refine hK.fork rfl rfl rfl ?_ ?_ <;> intro h <;> try simp (disch := (refine Om.mk ?_; omega)) only [go_sem] at h) | (with_reducible refine And.intro (by first | omega | (simp only [lens]; omega)) ?_) | ((with_reducible refine And.intro ?_ ?_); · first | (intro x hx; subst hx; rfl) | (intro x; refine And.intro ?_ ?_ <;> (intros; subst_vars; rfl))) | fail
   refine lops_freeze 5 1 .any (id := 500) (n := r.length) (cs := ((fxR bs V r c5 r.length).1.map (.int .i64))) ((fxR bs V r c5 r.length).1.map (.int .i64)) (by simp [Lg.look]) (by simp [Lg.look]) (flat_ints _).symm (by rw [List.length_map, fxR_len]) (cells_one fun _ => rfl) (memOk_ints _) (.inl rfl) ?_
   simp only [go_sem]
   refine lops_go 0 ?_
   refine fun (K : List Oper → LS → Prop) (hK : KOk S 0 _ _ _ K) => ?_
   simp only [go_sem]
   repeat' first | refine sw_seq ?_ | refine sw_block ?_ | refine sw_inBlock ?_ | refine sw_skip ?_ | refine sw_go 0 kp13 fun K hK => ?_ | refine fun (K : KT) (hK : KOk S 0 _ _ _ K) => ?_ | ((first | refine runL_go ?_ | refine sw_ret (ret0 ?_) | refine sw_ret ?_); simp (disch := (refine Om.mk ?_; omega)) only [go_sem, Try.results13]) | (refine hK.nil ?_; clear hK K; simp only [go_sem]) | ((first | refine runG_fork rfl rfl rfl rfl rfl ?_ ?_ | refine sw_cond rfl ?_ ?_) <;> intro h <;> try simp (disch := (refine Om.mk ?_; omega)) only [go_sem] at h) | refine hK.skp rfl rfl ?_ | refine sw_exit rfl ?_ | refine sw_loopEnd ?_ | (refine hK.fork rfl rfl rfl ?_ ?_ <;> intro h <;> try simp (disch := (refine Om.mk ?_; omega)) only [go_sem] at h) | (with_reducible refine And.intro (by first | omega | (simp only [lens]; omega)) ?_) | ((with_reducible refine And.intro ?_ ?_); · first | (intro x hx; subst hx; rfl) | (intro x; refine And.intro ?_ ?_ <;> (intros; subst_vars; rfl))) | fail
   all_goals first | rfl | exact ⟨rfl, rfl⟩ | trace_state
end Go.Proofs.Ytmogobaaophknaa
