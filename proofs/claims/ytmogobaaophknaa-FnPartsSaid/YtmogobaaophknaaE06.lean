/-
  Systems by the laws' dice.
-/
import Derived.Test.YtmogobaaophknaaE04
namespace Go.Proofs.Ytmogobaaophknaa
open Go Go.Lg
set_option linter.unusedSimpArgs false
set_option linter.unusedVariables false
set_option maxHeartbeats 4000000
attribute [local irreducible] SW runL runQ runG runQG FC Ret1 toF redoL anyB
theorem tksL_rulesE (xs : List RuleT) : D.tksL (xs.map RuleD) = [] := by
 induction xs with
 | nil => rfl
 | cons x r ih => simp [D.tksL, D.tks, RuleD, tksE, ih]
theorem idsL_rulesE (xs : List RuleT) : D.idsL (xs.map RuleD) = [] := by
 induction xs with
 | nil => rfl
 | cons x r ih => simp [D.idsL, D.ids, RuleD, idsL_intsE, ih]
theorem puOk_rulesE (p : Nat → Bool) (xs : List RuleT) : ((xs.map RuleD).all fun d => d.puOk p) = true := by
 rw [List.all_map]
 exact List.all_eq_true.2 fun _ _ => rfl
def rlE (step : Dc → RuleT × Dc) (c : Dc) : Nat → List RuleT × Dc
 | 0 => ([], c)
 | k + 1 => ((rlE step c k).1 ++ [(step (rlE step c k).2).1], (step (rlE step c k).2).2)
section
variable {step : Dc → RuleT × Dc} {c : Dc}
theorem rlE_s1 (k : Nat) : (rlE step c (k + 1)).1 = (rlE step c k).1 ++ [(step (rlE step c k).2).1] := rfl
theorem rlE_s2 (k : Nat) : (rlE step c (k + 1)).2 = (step (rlE step c k).2).2 := rfl
theorem rlE_z : rlE step c 0 = ([], c) := rfl
theorem rlE_len : ∀ k, (rlE step c k).1.length = k
 | 0 => rfl
 | k + 1 => by rw [rlE_s1, List.length_append, rlE_len k]; rfl
theorem rlE_i {m : Nat} (h : ∀ c : Dc, c.i ≤ m → (step c).2.i ≤ m) (hc : c.i ≤ m) : ∀ k, (rlE step c k).2.i ≤ m
 | 0 => hc
 | k + 1 => h _ (rlE_i h hc k)
end
attribute [local irreducible] rlE bel dC StpE
def kp12 : List (Nat × List Nat) := [(0, [0]), (1, [3]), (2, [3, 4]), (3, [2]), (4, [3, 13]), (5, [2]), (6, [3, 19]), (7, [2]), (8, [3, 25]), (9, [2]), (10, [34]), (11, [2]), (12, [2])]
attribute [go_sem] kp12
theorem w9Known_fc (k : Int) : ∃ rs : List RuleT, FC S 12 [] [] [] [.int .i64 k] (.sl .any (rs.map RuleD)) [] [] := by
 by_cases h0 : k = 0
 ·refine ⟨[⟨[0, 2, -1], [-1]⟩, ⟨[0, 1, -1, -2], [1, 0, -1, -2]⟩], ?_⟩
  refine fc_body Try.func12 rfl (by kernel_rfl) (by simp [Try.f12]) fun B => ?_
  simp only [Try.ntmps12, enumD, lst0, Nat.reduceAdd]
  repeat' first | ((exfalso; omega)) | refine sw_seq ?_ | refine sw_block ?_ | refine sw_inBlock ?_ | refine sw_skip ?_ | refine sw_go 0 kp12 fun K hK => ?_ | refine fun (K : KT) (hK : KOk S 0 _ _ _ K) => ?_ | ((first | refine runL_go ?_ | refine sw_ret (ret0 ?_) | refine sw_ret ?_); simp (disch := (refine Om.mk ?_; omega)) only [go_sem, Try.results12]) | (refine hK.nil ?_; clear hK K; simp only [go_sem]) | ((first | refine sw_cond rfl ?_ ?_) <;> intro h <;> try simp (disch := (refine Om.mk ?_; omega)) only [go_sem] at h) | refine sw_loopEnd ?_ | (with_reducible refine And.intro (by first | omega | (simp only [lens]; omega)) ?_) | ((with_reducible refine And.intro ?_ ?_); · first | (intro x hx; subst hx; rfl) | (intro x; refine And.intro ?_ ?_ <;> (intros; subst_vars; rfl))) | fail
  all_goals first | rfl | exact ⟨rfl, rfl⟩ | trace_state
 by_cases h1 : k = 1
 ·refine ⟨[⟨[0, 0, -1, -2, -3], [0, -1, 0, -2, -3]⟩], ?_⟩
  refine fc_body Try.func12 rfl (by kernel_rfl) (by simp [Try.f12]) fun B => ?_
  simp only [Try.ntmps12, enumD, lst0, Nat.reduceAdd]
  repeat' first | ((exfalso; omega)) | refine sw_seq ?_ | refine sw_block ?_ | refine sw_inBlock ?_ | refine sw_skip ?_ | refine sw_go 0 kp12 fun K hK => ?_ | refine fun (K : KT) (hK : KOk S 0 _ _ _ K) => ?_ | ((first | refine runL_go ?_ | refine sw_ret (ret0 ?_) | refine sw_ret ?_); simp (disch := (refine Om.mk ?_; omega)) only [go_sem, Try.results12]) | (refine hK.nil ?_; clear hK K; simp only [go_sem]) | ((first | refine sw_cond rfl ?_ ?_) <;> intro h <;> try simp (disch := (refine Om.mk ?_; omega)) only [go_sem] at h) | refine sw_loopEnd ?_ | (with_reducible refine And.intro (by first | omega | (simp only [lens]; omega)) ?_) | ((with_reducible refine And.intro ?_ ?_); · first | (intro x hx; subst hx; rfl) | (intro x; refine And.intro ?_ ?_ <;> (intros; subst_vars; rfl))) | fail
  all_goals first | rfl | exact ⟨rfl, rfl⟩ | trace_state
 by_cases h2 : k = 2
 ·refine ⟨[⟨[1, 1, -1], [-1]⟩], ?_⟩
  refine fc_body Try.func12 rfl (by kernel_rfl) (by simp [Try.f12]) fun B => ?_
  simp only [Try.ntmps12, enumD, lst0, Nat.reduceAdd]
  repeat' first | ((exfalso; omega)) | refine sw_seq ?_ | refine sw_block ?_ | refine sw_inBlock ?_ | refine sw_skip ?_ | refine sw_go 0 kp12 fun K hK => ?_ | refine fun (K : KT) (hK : KOk S 0 _ _ _ K) => ?_ | ((first | refine runL_go ?_ | refine sw_ret (ret0 ?_) | refine sw_ret ?_); simp (disch := (refine Om.mk ?_; omega)) only [go_sem, Try.results12]) | (refine hK.nil ?_; clear hK K; simp only [go_sem]) | ((first | refine sw_cond rfl ?_ ?_) <;> intro h <;> try simp (disch := (refine Om.mk ?_; omega)) only [go_sem] at h) | refine sw_loopEnd ?_ | (with_reducible refine And.intro (by first | omega | (simp only [lens]; omega)) ?_) | ((with_reducible refine And.intro ?_ ?_); · first | (intro x hx; subst hx; rfl) | (intro x; refine And.intro ?_ ?_ <;> (intros; subst_vars; rfl))) | fail
  all_goals first | rfl | exact ⟨rfl, rfl⟩ | trace_state
 by_cases h3 : k = 3
 ·refine ⟨[⟨[0, -1, 2], [-1]⟩, ⟨[0, 1, -1, 1, -2], [0, -1, -2]⟩], ?_⟩
  refine fc_body Try.func12 rfl (by kernel_rfl) (by simp [Try.f12]) fun B => ?_
  simp only [Try.ntmps12, enumD, lst0, Nat.reduceAdd]
  repeat' first | ((exfalso; omega)) | refine sw_seq ?_ | refine sw_block ?_ | refine sw_inBlock ?_ | refine sw_skip ?_ | refine sw_go 0 kp12 fun K hK => ?_ | refine fun (K : KT) (hK : KOk S 0 _ _ _ K) => ?_ | ((first | refine runL_go ?_ | refine sw_ret (ret0 ?_) | refine sw_ret ?_); simp (disch := (refine Om.mk ?_; omega)) only [go_sem, Try.results12]) | (refine hK.nil ?_; clear hK K; simp only [go_sem]) | ((first | refine sw_cond rfl ?_ ?_) <;> intro h <;> try simp (disch := (refine Om.mk ?_; omega)) only [go_sem] at h) | refine sw_loopEnd ?_ | (with_reducible refine And.intro (by first | omega | (simp only [lens]; omega)) ?_) | ((with_reducible refine And.intro ?_ ?_); · first | (intro x hx; subst hx; rfl) | (intro x; refine And.intro ?_ ?_ <;> (intros; subst_vars; rfl))) | fail
  all_goals first | rfl | exact ⟨rfl, rfl⟩ | trace_state
 by_cases h4 : k = 4
 ·refine ⟨[⟨[1, 2], [2]⟩, ⟨[1, 0, -1, -2], [0, 1, -2, 1, -1]⟩], ?_⟩
  refine fc_body Try.func12 rfl (by kernel_rfl) (by simp [Try.f12]) fun B => ?_
  simp only [Try.ntmps12, enumD, lst0, Nat.reduceAdd]
  repeat' first | ((exfalso; omega)) | refine sw_seq ?_ | refine sw_block ?_ | refine sw_inBlock ?_ | refine sw_skip ?_ | refine sw_go 0 kp12 fun K hK => ?_ | refine fun (K : KT) (hK : KOk S 0 _ _ _ K) => ?_ | ((first | refine runL_go ?_ | refine sw_ret (ret0 ?_) | refine sw_ret ?_); simp (disch := (refine Om.mk ?_; omega)) only [go_sem, Try.results12]) | (refine hK.nil ?_; clear hK K; simp only [go_sem]) | ((first | refine sw_cond rfl ?_ ?_) <;> intro h <;> try simp (disch := (refine Om.mk ?_; omega)) only [go_sem] at h) | refine sw_loopEnd ?_ | (with_reducible refine And.intro (by first | omega | (simp only [lens]; omega)) ?_) | ((with_reducible refine And.intro ?_ ?_); · first | (intro x hx; subst hx; rfl) | (intro x; refine And.intro ?_ ?_ <;> (intros; subst_vars; rfl))) | fail
  all_goals first | rfl | exact ⟨rfl, rfl⟩ | trace_state
 ·refine ⟨[⟨[0, 2, -1], [-1]⟩, ⟨[0, -1, 2], [-1]⟩, ⟨[0, 0, -1, -2, -3], [0, -1, 0, -2, -3]⟩], ?_⟩
  refine fc_body Try.func12 rfl (by kernel_rfl) (by simp [Try.f12]) fun B => ?_
  simp only [Try.ntmps12, enumD, lst0, Nat.reduceAdd]
  repeat' first | ((exfalso; omega)) | refine sw_seq ?_ | refine sw_block ?_ | refine sw_inBlock ?_ | refine sw_skip ?_ | refine sw_go 0 kp12 fun K hK => ?_ | refine fun (K : KT) (hK : KOk S 0 _ _ _ K) => ?_ | ((first | refine runL_go ?_ | refine sw_ret (ret0 ?_) | refine sw_ret ?_); simp (disch := (refine Om.mk ?_; omega)) only [go_sem, Try.results12]) | (refine hK.nil ?_; clear hK K; simp only [go_sem]) | ((first | refine sw_cond rfl ?_ ?_) <;> intro h <;> try simp (disch := (refine Om.mk ?_; omega)) only [go_sem] at h) | refine sw_loopEnd ?_ | (with_reducible refine And.intro (by first | omega | (simp only [lens]; omega)) ?_) | ((with_reducible refine And.intro ?_ ?_); · first | (intro x hx; subst hx; rfl) | (intro x; refine And.intro ?_ ?_ <;> (intros; subst_vars; rfl))) | fail
  all_goals first | rfl | exact ⟨rfl, rfl⟩ | trace_state
def kp6 : List (Nat × List Nat) := [(0, [0, 2]), (1, [0, 2, 3]), (2, [0, 2, 3, 9]), (3, [2, 3]), (4, [2]), (5, [0, 2, 3, 4]), (6, [0, 2, 3, 4, 19]), (8, [0, 2, 3, 4]), (7, [0, 2, 3, 4]), (9, [2])]
attribute [go_sem] kp6
theorem w9System_fc (bs : List Int) (hb : BytesP bs) (id : Nat) (c : Dc) (hc : c.i ≤ bs.length) : ∃ (x : SystemT) (c' : Dc), FC S 6 [] [(id + 1000, [.sl .any (bs.map (.int .u8)), .int .i64 (c).i, .int .u64 (c).h])] [] [.box (id + 1000) 0] (SystemD x) [(id + 1000, [.sl .any (bs.map (.int .u8)), .int .i64 (c').i, .int .u64 (c').h])] [] := by
 obtain ⟨step, H⟩ : ∃ step : Dc → RuleT × Dc, ∀ c : Dc, c.i ≤ bs.length → (step c).2.i ≤ bs.length ∧ FC S 13 [] [(id + 1000, [.sl .any (bs.map (.int .u8)), .int .i64 (c).i, .int .u64 (c).h])] [] [.box (id + 1000) 0] (RuleD (step c).1) [(id + 1000, [.sl .any (bs.map (.int .u8)), .int .i64 ((step c).2).i, .int .u64 ((step c).2).h])] [] := by
  refine ⟨fun c => if h : c.i ≤ bs.length then (Classical.choose (w9Rule_fc bs hb id c h), Classical.choose (Classical.choose_spec (w9Rule_fc bs hb id c h))) else (default, c), fun c hc => ?_⟩
  simp only [dif_pos hc]
  exact Classical.choose_spec (Classical.choose_spec (w9Rule_fc bs hb id c hc))
 have c1 := below_fc (id + 1000) bs hb c hc 2 (by omega)
 have b1 := bel_lt hb c (show (0 : Int) < 2 by omega)
 have i1 := dC_i hc
 rcases Classical.em (bel bs c 2 = 0) with h2 | h2
 ·have c2 := below_fc (id + 1000) bs hb (dC bs c) i1 6 (by omega)
  obtain ⟨rs, cK⟩ := w9Known_fc (bel bs (dC bs c) 6)
  refine ⟨⟨[2, 1, 0], rs⟩, dC bs (dC bs c), ?_⟩
  generalize bel bs (dC bs c) 6 = k at *
  refine fc_bodyP Try.func6 rfl (by kernel_rfl) (by simp [Try.f6]) fun B hP => ?_
  simp only [Try.ntmps6, enumD, lst0, Nat.reduceAdd]
  repeat' first | ((exfalso; omega)) | refine sw_seq ?_ | refine sw_block ?_ | refine sw_inBlock ?_ | refine sw_skip ?_ | refine sw_go 0 kp6 fun K hK => ?_ | refine sw_goT 0 kp6 5 (id := 8) (by kernel_rfl) fun K hK => ?_ | refine fun (K : KT) (hK : KOk S 0 _ _ _ K) => ?_ | refine sw_goD kp6 (by kernel_rfl) fun K hK => ?_ | ((first | refine runL_go ?_ | refine runQ_go ?_ | refine sw_ret (ret0 ?_) | refine sw_ret ?_); simp (disch := (refine Om.mk ?_; omega)) only [go_sem, Try.results6]) | (refine hK.nil ?_; clear hK K; simp only [go_sem]) | ((first | refine sw_cond rfl ?_ ?_) <;> intro h <;> try simp (disch := (refine Om.mk ?_; omega)) only [go_sem] at h) | refine sw_exit rfl ?_ | refine sw_loopEnd ?_ | (refine hK.callB rfl rfl rfl (c1) ⟨⟨by simp only [Nat.reduceLT], (by first | (simp; all_goals fail) | (simp [LS.getBox, Lg.look]; all_goals fail)), by (simp [Lg.look]; all_goals fail), by (simp; all_goals fail), by (simp; all_goals fail)⟩, ⟨by (simp [D.ids, D.idsL]; all_goals fail), by (simp [D.ids, D.idsL]; all_goals fail), by (simp [D.tks, D.tksL]; all_goals fail), by (simp [D.tks, D.tksL]; all_goals fail), by (simp; all_goals fail)⟩, rfl⟩ ?_; simp (disch := (refine Om.mk ?_; omega)) only [go_sem]) | (refine hK.callB rfl rfl rfl (c2) ⟨⟨by simp only [Nat.reduceLT], (by first | (simp; all_goals fail) | (simp [LS.getBox, Lg.look]; all_goals fail)), by (simp [Lg.look]; all_goals fail), by (simp; all_goals fail), by (simp; all_goals fail)⟩, ⟨by (simp [D.ids, D.idsL]; all_goals fail), by (simp [D.ids, D.idsL]; all_goals fail), by (simp [D.tks, D.tksL]; all_goals fail), by (simp [D.tks, D.tksL]; all_goals fail), by (simp; all_goals fail)⟩, rfl⟩ ?_; simp (disch := (refine Om.mk ?_; omega)) only [go_sem]) | refine hK.c0 rfl rfl rfl (cK) rfl rfl rfl ?_ | refine hK.c0 rfl rfl rfl (w9Sig_fc) rfl rfl rfl ?_ | (with_reducible refine And.intro (by first | omega | (simp only [lens]; omega)) ?_) | ((with_reducible refine And.intro ?_ ?_); · first | (intro x hx; subst hx; rfl) | (intro x; refine And.intro ?_ ?_ <;> (intros; subst_vars; rfl))) | fail
  all_goals first | rfl | exact ⟨rfl, rfl⟩ | trace_state
 ·have c2 := below_fc (id + 1000) bs hb (dC bs c) i1 3 (by omega)
  have hv := bel_lt hb (dC bs c) (show (0 : Int) < 3 by omega)
  have i2 := dC_i i1
  obtain ⟨m0, hm0, hm3⟩ : ∃ m : Nat, bel bs (dC bs c) 3 = (m : Int) ∧ m ≤ 2 := ⟨(bel bs (dC bs c) 3).toNat, by omega, by omega⟩
  rw [hm0] at c2
  generalize dC bs (dC bs c) = c3 at *
  refine ⟨⟨[2, 1, 0], (rlE step c3 (m0 + 1)).1⟩, (rlE step c3 (m0 + 1)).2, ?_⟩
  refine fc_bodyP Try.func6 rfl (by kernel_rfl) (by simp [Try.f6]) fun B hP => ?_
  simp only [Try.ntmps6, enumD, lst0, Nat.reduceAdd]
  repeat' first | ((exfalso; omega)) | refine sw_seq ?_ | refine sw_block ?_ | refine sw_inBlock ?_ | refine sw_skip ?_ | refine sw_go 0 kp6 fun K hK => ?_ | refine sw_goT 0 kp6 5 (id := 8) (by kernel_rfl) fun K hK => ?_ | refine fun (K : KT) (hK : KOk S 0 _ _ _ K) => ?_ | refine sw_goD kp6 (by kernel_rfl) fun K hK => ?_ | ((first | refine runL_go ?_ | refine runQ_go ?_ | refine sw_ret (ret0 ?_) | refine sw_ret ?_); simp (disch := (refine Om.mk ?_; omega)) only [go_sem, Try.results6]) | (refine hK.nil ?_; clear hK K; simp only [go_sem]) | ((first | refine sw_cond rfl ?_ ?_) <;> intro h <;> try simp (disch := (refine Om.mk ?_; omega)) only [go_sem] at h) | refine sw_exit rfl ?_ | refine sw_loopEnd ?_ | (refine hK.callB rfl rfl rfl (c1) ⟨⟨by simp only [Nat.reduceLT], (by first | (simp; all_goals fail) | (simp [LS.getBox, Lg.look]; all_goals fail)), by (simp [Lg.look]; all_goals fail), by (simp; all_goals fail), by (simp; all_goals fail)⟩, ⟨by (simp [D.ids, D.idsL]; all_goals fail), by (simp [D.ids, D.idsL]; all_goals fail), by (simp [D.tks, D.tksL]; all_goals fail), by (simp [D.tks, D.tksL]; all_goals fail), by (simp; all_goals fail)⟩, rfl⟩ ?_; simp (disch := (refine Om.mk ?_; omega)) only [go_sem]) | (refine hK.callB rfl rfl rfl (c2) ⟨⟨by simp only [Nat.reduceLT], (by first | (simp; all_goals fail) | (simp [LS.getBox, Lg.look]; all_goals fail)), by (simp [Lg.look]; all_goals fail), by (simp; all_goals fail), by (simp; all_goals fail)⟩, ⟨by (simp [D.ids, D.idsL]; all_goals fail), by (simp [D.ids, D.idsL]; all_goals fail), by (simp [D.tks, D.tksL]; all_goals fail), by (simp [D.tks, D.tksL]; all_goals fail), by (simp; all_goals fail)⟩, rfl⟩ ?_; simp (disch := (refine Om.mk ?_; omega)) only [go_sem]) | refine hK.c0 rfl rfl rfl (w9Sig_fc) rfl rfl rfl ?_ | (with_reducible refine And.intro (by first | omega | (simp only [lens]; omega)) ?_) | ((with_reducible refine And.intro ?_ ?_); · first | (intro x hx; subst hx; rfl) | (intro x; refine And.intro ?_ ?_ <;> (intros; subst_vars; rfl))) | fail
  refine sw_tokBox 3 1 28000 47 2 rfl rfl rfl ?_
  simp only [go_sem]
  refine sw_loopT (ι := Nat) (fun k => [(4, .int .i64 ((m0 : Int) + 1 - k))]) (fun k => [(id + 1000, [.sl .any (bs.map (.int .u8)), .int .i64 ((rlE step c3 k).2).i, .int .u64 ((rlE step c3 k).2).h]), (3, [.sl .any (([2, 1, 0] : List Int).map (.int .i64)), .sl (.own 28000 47 2) ((rlE step c3 k).1.map RuleD)])]) (fun _ => [28000]) (fun k => k ≤ m0 + 1) (fun k => m0 + 1 - k) 0 (by rw [rlE_z]; (refine covers_mk0 rfl rfl ?_ ?_ ?_ ?_ <;> simp (disch := (refine Om.mk ?_; omega)) only [go_sem] <;> (try omega)); all_goals first | rfl | exact ⟨rfl, rfl⟩ | omega | exact ⟨by omega, rfl⟩ | trace_state) (by omega) (fun k hk => ?_)
  simp only [go_sem]
  have hl1 := @rlE_len step c3 k
  have hs1 := @rlE_s1 step c3 k
  have hs2 := @rlE_s2 step c3 k
  have hik := rlE_i (fun c hc => (H c hc).1) i2 k
  have cR := (H _ hik).2
  by_cases hk2 : k < m0 + 1
  ·generalize rlE step c3 k = p at *
   obtain ⟨l, c5⟩ := p
   dsimp only at cR hs1 hs2 hl1 ⊢
   generalize step c5 = q at *
   obtain ⟨ru, c6⟩ := q
   dsimp only at cR hs1 hs2 ⊢
   repeat' first | ((exfalso; omega)) | ((refine And.intro (List.mem_filter.2 ⟨by simp, by simp⟩) ?_)) | ((refine sw_any (id := 8) kp6 [(false, []), (false, [0]), (true, []), (false, [2]), (false, [3]), (false, [1, 4, 3]), (false, [0, 1, 2, 3, 4, 5]), (false, [6, 5, 5, 0, 1, 2, 3, 4, 5])] ⟨30, [(0, .box (id + 1000) 0), (2, .box 2 0), (3, .box 3 0), (4, .int .i64 ((m0 : Int) + 1 - k))], [(id + 1000, [.sl .any (bs.map (.int .u8)), .int .i64 (c6).i, .int .u64 (c6).h]), (2, [.sl .nil [], .sl .nil []]), (3, [.sl .any (([2, 1, 0] : List Int).map (.int .i64)), .sl (.own 28000 47 2) (l.map RuleD ++ [RuleD ru])])], [], [28000], [id + 1000]⟩ (by kernel_rfl) ?_ ?_; simp only [List.length_cons, List.length_nil, Nat.reduceAdd])) | ((refine anyB_unf ?_; simp only [stepF_n, stepF_c, goR_n, goR_c, exR_n, exR_c, memB_n, memB_c, subB_n, subB_c, moveY_m, moveY_f, moveY_i, cond_t, cond_f, true_and, and_true, Bool.not_false, Bool.not_true, Bool.and_true, Bool.and_false, Bool.true_and, Bool.false_and, Bool.or_false, Bool.false_or, Bool.true_or, Bool.or_true, Nat.reduceBEq, Nat.reduceAdd])) | ((refine anyB_move (by simp only [Nat.reduceLT]) rfl (by simp only [go_sem]; exact rfl) ?_)) | ((refine anyB_fa (by simp only [Nat.reduceLT]) rfl rfl rfl rfl (by decide) (by simp only [go_sem]; exact rfl) ?_)) | ((refine hK.nil (anyB_id ?_); clear hK K)) | ((refine lops_and ?_ ?_)) | ((refine lops_go 0 ?_; refine fun (K : List Oper → LS → Prop) (hK : KOk S 0 _ _ _ K) => ?_; simp (disch := (refine Om.mk ?_; omega)) only [go_sem])) | ((refine anyB_end ?_; simp (disch := (refine Om.mk ?_; omega)) only [go_sem]; (refine covers_mk0 rfl rfl ?_ ?_ ?_ ?_ <;> simp (disch := (refine Om.mk ?_; omega)) only [go_sem] <;> (try omega)); done)) | ((refine anyB_end ?_; simp (disch := (refine Om.mk ?_; omega)) only [go_sem]; (refine covers_mk0 rfl rfl ?_ ?_ ?_ ?_ <;> simp (disch := (refine Om.mk ?_; omega)) only [go_sem] <;> (try omega)); all_goals (simp; done))) | ((refine hK.callB rfl rfl rfl (cR) ⟨⟨by simp only [Nat.reduceLT], (by simp), (by simp [Lg.look]), (by simp), (by simp)⟩, ⟨by simp [D.ids, D.idsL, RuleD, idsL_intsE], by simp [D.ids, D.idsL, RuleD, idsL_intsE], by simp [D.tks, D.tksL, RuleD, tksE], by simp [D.tks, D.tksL, RuleD, tksE], by simp⟩, (by simp [LS.clean, D.puOk, D.pu, D.pu1, D.tks, D.tksL, tksE, tksL_rulesE, puOk_rulesE, puOkE, inTok])⟩ ?_; simp (disch := (refine Om.mk ?_; omega)) only [go_sem])) | refine sw_seq ?_ | refine sw_block ?_ | refine sw_inBlock ?_ | refine sw_skip ?_ | refine sw_go 0 kp6 fun K hK => ?_ | refine sw_goT 0 kp6 5 (id := 8) (by kernel_rfl) fun K hK => ?_ | refine fun (K : KT) (hK : KOk S 0 _ _ _ K) => ?_ | refine sw_goD kp6 (by kernel_rfl) fun K hK => ?_ | ((first | refine runL_go ?_ | refine runQ_go ?_ | refine sw_ret (ret0 ?_) | refine sw_ret ?_); simp (disch := (refine Om.mk ?_; omega)) only [go_sem, Try.results6]) | (refine hK.nil ?_; clear hK K; simp only [go_sem]) | ((first | refine sw_cond rfl ?_ ?_) <;> intro h <;> try simp (disch := (refine Om.mk ?_; omega)) only [go_sem] at h) | refine sw_exit rfl ?_ | refine sw_loopEnd ?_ | (with_reducible refine And.intro (by first | omega | (simp only [lens]; omega)) ?_) | ((with_reducible refine And.intro ?_ ?_); · first | (intro x hx; subst hx; rfl) | (intro x; refine And.intro ?_ ?_ <;> (intros; subst_vars; rfl))) | fail
   refine ⟨k + 1, ?_, by omega, by omega⟩
   rw [hs1, hs2, List.map_append]
   exact (by (refine covers_mk0 rfl rfl ?_ ?_ ?_ ?_ <;> simp (disch := (refine Om.mk ?_; omega)) only [go_sem] <;> (try omega)); all_goals first | rfl | exact ⟨rfl, rfl⟩ | omega | exact ⟨rfl, by omega⟩ | exact ⟨by omega, rfl⟩ | trace_state)
  ·obtain rfl : k = m0 + 1 := by omega
   repeat' first | ((exfalso; omega)) | refine sw_seq ?_ | refine sw_block ?_ | refine sw_inBlock ?_ | refine sw_skip ?_ | refine sw_go 0 kp6 fun K hK => ?_ | refine sw_goT 0 kp6 5 (id := 8) (by kernel_rfl) fun K hK => ?_ | refine fun (K : KT) (hK : KOk S 0 _ _ _ K) => ?_ | refine sw_goD kp6 (by kernel_rfl) fun K hK => ?_ | ((first | refine runL_go ?_ | refine runQ_go ?_ | refine sw_ret (ret0 ?_) | refine sw_ret ?_); simp (disch := (refine Om.mk ?_; omega)) only [go_sem, Try.results6]) | (refine hK.nil ?_; clear hK K; simp only [go_sem]) | ((first | refine sw_cond rfl ?_ ?_) <;> intro h <;> try simp (disch := (refine Om.mk ?_; omega)) only [go_sem] at h) | refine sw_exit rfl ?_ | refine sw_loopEnd ?_ | (with_reducible refine And.intro (by first | omega | (simp only [lens]; omega)) ?_) | ((with_reducible refine And.intro ?_ ?_); · first | (intro x hx; subst hx; rfl) | (intro x; refine And.intro ?_ ?_ <;> (intros; subst_vars; rfl))) | fail
   all_goals first | rfl | exact ⟨rfl, rfl⟩ | trace_state
end Go.Proofs.Ytmogobaaophknaa
