/-
  P22, A17j, A23c, A23f, A23g, P23, U17, U18, U19, U21, P19, P26, U06, U07, P26i, one behind the other.
-/
import Derived.Test.YtmogobaaophknaaG7
import Derived.Test.YtmogobaaophknaaG4
import Derived.Test.YtmogobaaophknaaSet
import Derived.Test.YtmogobaaophknaaG0
import Derived.Test.YtmogobaaophknaaG3
import Derived.Test.YtmogobaaophknaaLgK13
import Derived.Test.YtmogobaaophknaaLgK10
import Derived.Test.YtmogobaaophknaaLgK12
import Derived.Test.YtmogobaaophknaaLgK17
import Derived.Test.YtmogobaaophknaaLgK7
import Derived.Test.YtmogobaaophknaaG6
import Derived.Recover
import Derived.Laws.Pointers
import Derived.Laws.NewBlocks
import Derived.Test.YtmogobaaophknaaLgK14
section
namespace Go.Proofs.Ytmogobaaophknaa
open Go Go.Lg
set_option linter.unusedSimpArgs false
set_option linter.unusedVariables false
set_option maxHeartbeats 4000000
attribute [local irreducible] SW runL runQ runG runQG FC Ret1 DefP mkO
noncomputable def capL (x : SystemT) (t : List Int) : Nat → Nat → Nat → List Int × Nat
 | 0, _, n => ([], n)
 | f + 1, a, n => if a < t.length then (if mkO x t a = 2 then (-((n : Int) + 1) :: (capL x t f (endS x.sig t a).toNat (n + 1)).1, (capL x t f (endS x.sig t a).toNat (n + 1)).2) else (t.getD a default :: (capL x t f (a + 1) n).1, (capL x t f (a + 1) n).2)) else ([], n)
theorem mkO_cases (x : SystemT) (t : List Int) (a : Nat) : mkO x t a = 0 ∨ mkO x t a = 1 ∨ mkO x t a = 2 := by
 unfold mkO
 split
 ·simp
 ·split
  ·simp
  ·split <;> simp
def kp41 : List (Nat × List Nat) := [(0, [1, 2]), (1, [1, 2, 6]), (2, [1, 2, 6, 7]), (3, [1, 2, 6, 7, 8]), (4, [1, 2, 6, 7, 8, 12]), (5, [1, 2, 6, 7, 8, 16]), (6, [1, 2, 6, 7, 8, 16, 17]), (7, [1, 2, 6, 7, 8, 16, 19]), (8, [1, 2, 6, 7, 8, 21]), (9, [1, 2, 6, 7, 8]), (10, [1, 2, 6, 7, 8]), (11, [1, 2, 6, 7, 8]), (12, [1, 2, 6, 7, 8]), (13, [1, 2, 6, 7, 8]), (14, [4, 5])]
attribute [go_sem] kp41
theorem capped_fc (x : SystemT) (t : List Int) (hT : TermOkP x.sig t) (h : ∀ r ∈ x.rules, 1 ≤ r.l.length) : FC S 41 [] [] [] [SystemD x, .sl .any (t.map (.int .i64))] (.tup [.sl .any ((capL x t 60 0 0).1.map (.int .i64)), .bool (decide ((((capL x t 60 0 0).2 : Nat) : Int) ≤ 24))]) [] [] := by
 have hl := hT.2.1
 generalize hR : capL x t 60 0 0 = R
 refine fc_body Try.func41 rfl (by kernel_rfl) (by simp [Try.f41]) fun B => ?_
 simp only [Try.ntmps41, enumD, lst0, Nat.reduceAdd]
 repeat' first | refine sw_seq ?_ | refine sw_block ?_ | refine sw_inBlock ?_ | refine sw_skip ?_ | refine sw_go 0 kp41 fun K hK => ?_ | refine fun (K : KT) (hK : KOk S 0 _ _ _ K) => ?_ | ((first | refine runL_go ?_ | refine sw_ret (ret0 ?_) | refine sw_ret ?_); simp (disch := (refine Om.mk ?_; omega)) only [go_sem, Try.results41]) | (refine hK.nil ?_; clear hK K; simp only [go_sem]) | ((first | refine sw_cond rfl ?_ ?_) <;> intro h <;> try simp (disch := (refine Om.mk ?_; omega)) only [go_sem] at h) | refine sw_exit rfl ?_ | refine sw_loopEnd ?_ | (with_reducible refine And.intro (by first | omega | (simp only [lens]; omega)) ?_) | ((with_reducible refine And.intro ?_ ?_); · first | (intro x hx; subst hx; rfl) | (intro x; refine And.intro ?_ ?_ <;> (intros; subst_vars; rfl))) | fail
 refine sw_tok 6 39000 2 1 rfl (.inl rfl) rfl ?_
 simp only [go_sem]
 refine sw_loopT (ι := Nat × Nat × Nat × List Int) (fun q => [(1, .sl .any (t.map (.int .i64))), (2, .box 2 0), (8, .int .i64 q.2.1), (7, .int .i64 q.2.2.1), (6, .sl (.own 39000 2 1) (q.2.2.2.map (.int .i64)))]) (fun _ => []) (fun _ => [39000]) (fun q => (q.2.1 ≤ t.length ∧ q.2.2.1 ≤ q.2.1 ∧ q.2.2.2.length ≤ q.2.1 ∧ t.length ≤ q.2.1 + q.1) ∧ q.2.2.2 ++ (capL x t q.1 q.2.1 q.2.2.1).1 = R.1 ∧ (capL x t q.1 q.2.1 q.2.2.1).2 = R.2) (fun q => t.length - q.2.1) (60, 0, 0, []) (by (refine covers_mk0 rfl rfl ?_ ?_ ?_ ?_ <;> simp (disch := (refine Om.mk ?_; omega)) only [go_sem] <;> (try omega))) ⟨⟨by simp, by simp, by simp, by dsimp only; omega⟩, by dsimp only; rw [hR]; rfl, by dsimp only; rw [hR]⟩ (fun q hq => ?_)
 obtain ⟨f, a, n, out⟩ := q
 obtain ⟨⟨h1, h2, h3, h4⟩, h5, h6⟩ := hq
 dsimp only at h1 h2 h3 h4 h5 h6
 simp only [go_sem]
 by_cases hal : a < t.length
 ·obtain ⟨f, rfl⟩ : ∃ g, f = g + 1 := ⟨f - 1, by omega⟩
  have he := endS_ge hT hal
  have cM := markOf_fc x t a hal h
  have cE := endAt_fc .any .any x.sig t a hT.1 (fun y hy => hT.ge y hy) hl.2 (by omega)
  unfold capL at h5 h6
  rw [if_pos hal] at h5 h6
  rcases mkO_cases x t a with e | e | e
  ·rw [if_neg (by rw [e]; decide)] at h5 h6
   rw [e] at cM
   repeat' first | ((refine sw_renC 30000 39000 rfl rfl ?_; simp only [go_sem])) | ((exfalso; omega)) | refine sw_seq ?_ | refine sw_block ?_ | refine sw_inBlock ?_ | refine sw_skip ?_ | refine sw_go 0 kp41 fun K hK => ?_ | refine fun (K : KT) (hK : KOk S 0 _ _ _ K) => ?_ | ((first | refine runL_go ?_ | refine sw_ret (ret0 ?_) | refine sw_ret ?_); simp (disch := (refine Om.mk ?_; omega)) only [go_sem, Try.results41]) | (refine hK.nil ?_; clear hK K; simp only [go_sem]) | ((first | refine sw_cond rfl ?_ ?_) <;> intro h <;> try simp (disch := (refine Om.mk ?_; omega)) only [go_sem] at h) | refine sw_exit rfl ?_ | refine sw_loopEnd ?_ | refine hK.c0 rfl rfl rfl (cM) rfl rfl rfl ?_ | (with_reducible refine And.intro (by first | omega | (simp only [lens]; omega)) ?_) | ((with_reducible refine And.intro ?_ ?_); · first | (intro x hx; subst hx; rfl) | (intro x; refine And.intro ?_ ?_ <;> (intros; subst_vars; rfl))) | fail
   exact ⟨(f, a + 1, n, out ++ [t.getD a default]), (by (refine covers_mk0 rfl rfl ?_ ?_ ?_ ?_ <;> simp (disch := (refine Om.mk ?_; omega)) only [go_sem] <;> (try omega))), ⟨⟨by dsimp only; omega, by dsimp only; omega, by dsimp only; rw [List.length_append, List.length_singleton]; omega, by dsimp only; omega⟩, by dsimp only; rw [List.append_assoc]; exact h5, h6⟩, by dsimp only; omega⟩
  ·rw [if_neg (by rw [e]; decide)] at h5 h6
   rw [e] at cM
   repeat' first | ((refine sw_renC 30000 39000 rfl rfl ?_; simp only [go_sem])) | ((exfalso; omega)) | refine sw_seq ?_ | refine sw_block ?_ | refine sw_inBlock ?_ | refine sw_skip ?_ | refine sw_go 0 kp41 fun K hK => ?_ | refine fun (K : KT) (hK : KOk S 0 _ _ _ K) => ?_ | ((first | refine runL_go ?_ | refine sw_ret (ret0 ?_) | refine sw_ret ?_); simp (disch := (refine Om.mk ?_; omega)) only [go_sem, Try.results41]) | (refine hK.nil ?_; clear hK K; simp only [go_sem]) | ((first | refine sw_cond rfl ?_ ?_) <;> intro h <;> try simp (disch := (refine Om.mk ?_; omega)) only [go_sem] at h) | refine sw_exit rfl ?_ | refine sw_loopEnd ?_ | refine hK.c0 rfl rfl rfl (cM) rfl rfl rfl ?_ | (with_reducible refine And.intro (by first | omega | (simp only [lens]; omega)) ?_) | ((with_reducible refine And.intro ?_ ?_); · first | (intro x hx; subst hx; rfl) | (intro x; refine And.intro ?_ ?_ <;> (intros; subst_vars; rfl))) | fail
   exact ⟨(f, a + 1, n, out ++ [t.getD a default]), (by (refine covers_mk0 rfl rfl ?_ ?_ ?_ ?_ <;> simp (disch := (refine Om.mk ?_; omega)) only [go_sem] <;> (try omega))), ⟨⟨by dsimp only; omega, by dsimp only; omega, by dsimp only; rw [List.length_append, List.length_singleton]; omega, by dsimp only; omega⟩, by dsimp only; rw [List.append_assoc]; exact h5, h6⟩, by dsimp only; omega⟩
  ·rw [if_pos e] at h5 h6
   rw [e] at cM
   repeat' first | ((exfalso; omega)) | refine sw_seq ?_ | refine sw_block ?_ | refine sw_inBlock ?_ | refine sw_skip ?_ | refine sw_go 0 kp41 fun K hK => ?_ | refine fun (K : KT) (hK : KOk S 0 _ _ _ K) => ?_ | ((first | refine runL_go ?_ | refine sw_ret (ret0 ?_) | refine sw_ret ?_); simp (disch := (refine Om.mk ?_; omega)) only [go_sem, Try.results41]) | (refine hK.nil ?_; clear hK K; simp only [go_sem]) | ((first | refine sw_cond rfl ?_ ?_) <;> intro h <;> try simp (disch := (refine Om.mk ?_; omega)) only [go_sem] at h) | refine sw_exit rfl ?_ | refine sw_loopEnd ?_ | refine hK.c0 rfl rfl rfl (cM) rfl rfl rfl ?_ | refine hK.c0 rfl rfl rfl (cE) rfl rfl rfl ?_ | (with_reducible refine And.intro (by first | omega | (simp only [lens]; omega)) ?_) | ((with_reducible refine And.intro ?_ ?_); · first | (intro x hx; subst hx; rfl) | (intro x; refine And.intro ?_ ?_ <;> (intros; subst_vars; rfl))) | fail
   exact ⟨(f, (endS x.sig t a).toNat, n + 1, out ++ [-((n : Int) + 1)]), (by (refine covers_mk0 rfl rfl ?_ ?_ ?_ ?_ <;> simp (disch := (refine Om.mk ?_; omega)) only [go_sem] <;> (try omega)); all_goals first | exact ⟨by rw [Int.zero_sub], by omega, by omega⟩ | trace_state), ⟨⟨by dsimp only; omega, by dsimp only; omega, by dsimp only; rw [List.length_append, List.length_singleton]; omega, by dsimp only; omega⟩, by dsimp only; rw [List.append_assoc]; exact h5, h6⟩, by dsimp only; omega⟩
 ·have hz : capL x t f a n = ([], n) := by
   cases f with
   | zero => rfl
   | succ f => unfold capL; rw [if_neg hal]
  rw [hz] at h5 h6
  dsimp only at h5 h6
  rw [List.append_nil] at h5
  repeat' first | ((exfalso; omega)) | refine sw_seq ?_ | refine sw_block ?_ | refine sw_inBlock ?_ | refine sw_skip ?_ | refine sw_go 0 kp41 fun K hK => ?_ | refine fun (K : KT) (hK : KOk S 0 _ _ _ K) => ?_ | ((first | refine runL_go ?_ | refine sw_ret (ret0 ?_) | refine sw_ret ?_); simp (disch := (refine Om.mk ?_; omega)) only [go_sem, Try.results41]) | (refine hK.nil ?_; clear hK K; simp only [go_sem]) | ((first | refine sw_cond rfl ?_ ?_) <;> intro h <;> try simp (disch := (refine Om.mk ?_; omega)) only [go_sem] at h) | refine sw_exit rfl ?_ | refine sw_loopEnd ?_ | (with_reducible refine And.intro (by first | omega | (simp only [lens]; omega)) ?_) | ((with_reducible refine And.intro ?_ ?_); · first | (intro x hx; subst hx; rfl) | (intro x; refine And.intro ?_ ?_ <;> (intros; subst_vars; rfl))) | fail
  subst h6
  first | rfl | exact ⟨h5, rfl⟩ | exact h5
end Go.Proofs.Ytmogobaaophknaa
end
section
namespace Go.Proofs.Ytmogobaaophknaa
open Go Go.Lg
set_option linter.unusedSimpArgs false
set_option linter.unusedVariables false
set_option maxHeartbeats 4000000
attribute [local irreducible] SW runL runQ runG runQG FC Ret1 toF redoL anyB
def kp30 : List (Nat × List Nat) := [(0, [1]), (1, [1, 4]), (2, [1, 4, 11, 12, 13]), (3, [1, 4, 11, 12, 13, 14]), (4, [1, 4, 5, 6, 11, 12, 13]), (5, [1, 4, 5, 11, 12, 13, 20, 21]), (6, [1, 4, 5, 11, 12, 13, 20, 21, 22]), (7, [1, 4, 5, 7, 11, 12, 13, 20, 21]), (8, [1, 4, 5, 8, 9, 11, 12, 13, 20, 21]), (9, [1, 4, 5, 8, 11, 12, 13, 20, 21, 31]), (10, [1, 4, 5, 11, 12, 13, 20, 21]), (11, [1, 4, 5, 11, 12, 13, 20, 21]), (12, [1, 4, 11, 12, 13]), (13, [4, 40]), (14, [2, 3]), (15, [2, 3])]
attribute [go_sem] kp30
theorem pairs_fc (x : SystemT) (hx : SystemOkP x) : FC S 30 [] [] [] [SystemD x] (.tup [.sl .any ((pairsR x).1.map DepPairD), .bool (pairsR x).2]) [] [] := by
 have h12 := hx.1.2
 have hA : (prA x x.rules.length).length ≤ 64 → pairsR x = (allP x, true) := fun h => pairsR_yes ⟨hx, h⟩
 have hB : ¬ (prA x x.rules.length).length ≤ 64 → pairsR x = ([], false) := fun h => pairsR_no fun e => h e.2
 refine fc_body Try.func30 rfl (by kernel_rfl) (by simp [Try.f30]) fun B => ?_
 simp only [Try.ntmps30, enumD, lst0, Nat.reduceAdd]
 repeat' first | refine sw_seq ?_ | refine sw_block ?_ | refine sw_inBlock ?_ | refine sw_skip ?_ | refine sw_go 0 kp30 fun K hK => ?_ | refine fun (K : KT) (hK : KOk S 0 _ _ _ K) => ?_ | ((first | refine runL_go ?_ | refine sw_ret (ret0 ?_) | refine sw_ret ?_); simp (disch := (refine Om.mk ?_; omega)) only [go_sem, Try.results30]) | (refine hK.nil ?_; clear hK K; simp only [go_sem]) | ((first | refine sw_cond rfl ?_ ?_) <;> intro h <;> try simp (disch := (refine Om.mk ?_; omega)) only [go_sem] at h) | refine sw_exit rfl ?_ | refine sw_loopEnd ?_ | (with_reducible refine And.intro (by first | omega | (simp only [lens]; omega)) ?_) | ((with_reducible refine And.intro ?_ ?_); · first | (intro x hx; subst hx; rfl) | (intro x; refine And.intro ?_ ?_ <;> (intros; subst_vars; rfl))) | fail
 refine sw_tok 4 36000 51 4 rfl (.inl rfl) rfl ?_
 simp only [go_sem]
 refine sw_loopT (ι := Nat) (fun r => [(13, .int .i64 r), (4, .sl (.own 36000 51 4) ((prA x r).map DepPairD))]) (fun _ => []) (fun _ => [36000]) (fun r => r ≤ x.rules.length) (fun r => x.rules.length - r) 0 (by (refine covers_mk0 rfl rfl ?_ ?_ ?_ ?_ <;> simp (disch := (refine Om.mk ?_; omega)) only [go_sem] <;> (try omega)); all_goals exact ⟨rfl, rfl⟩) (by omega) (fun r hr => ?_)
 simp only [go_sem]
 have hl1 := prA_len hx r hr
 by_cases hrl : r < x.rules.length
 ·have hT := (hx.2 r hrl).1.2.1
  have hTl := hT.2.1
  repeat' first | ((exfalso; omega)) | refine sw_seq ?_ | refine sw_block ?_ | refine sw_inBlock ?_ | refine sw_skip ?_ | refine sw_go 0 kp30 fun K hK => ?_ | refine fun (K : KT) (hK : KOk S 0 _ _ _ K) => ?_ | ((first | refine runL_go ?_ | refine sw_ret (ret0 ?_) | refine sw_ret ?_); simp (disch := (refine Om.mk ?_; omega)) only [go_sem, Try.results30]) | (refine hK.nil ?_; clear hK K; simp only [go_sem]) | ((first | refine sw_cond rfl ?_ ?_) <;> intro h <;> try simp (disch := (refine Om.mk ?_; omega)) only [go_sem] at h) | refine sw_exit rfl ?_ | refine sw_loopEnd ?_ | (with_reducible refine And.intro (by first | omega | (simp only [lens]; omega)) ?_) | ((with_reducible refine And.intro ?_ ?_); · first | (intro x hx; subst hx; rfl) | (intro x; refine And.intro ?_ ?_ <;> (intros; subst_vars; rfl))) | fail
  refine sw_loopT (ι := Nat) (fun a => [(21, .int .i64 a), (4, .sl (.own 36000 51 4) ((prA x r ++ prR x r a).map DepPairD))]) (fun _ => []) (fun _ => [36000]) (fun a => a ≤ (x.rules.getD r default).r.length) (fun a => (x.rules.getD r default).r.length - a) 0 (by (refine covers_mk0 rfl rfl ?_ ?_ ?_ ?_ <;> simp (disch := (refine Om.mk ?_; omega)) only [go_sem] <;> (try omega)); all_goals first | rfl | (rw [show prR x r 0 = [] from rfl, List.append_nil]; exact ⟨rfl, rfl⟩) | (rw [show prR x r 0 = [] from rfl, List.append_nil])) (by omega) (fun a ha => ?_)
  simp only [go_sem]
  have hl2 := prR_len x r a
  have hl3 : (prA x r ++ prR x r a).length ≤ 60 * r + a := by rw [List.length_append]; omega
  by_cases hal : a < (x.rules.getD r default).r.length
  ·have hst := @prR_at x r a
   repeat' first | ((exfalso; omega)) | refine sw_seq ?_ | refine sw_block ?_ | refine sw_inBlock ?_ | refine sw_skip ?_ | refine sw_go 0 kp30 fun K hK => ?_ | refine fun (K : KT) (hK : KOk S 0 _ _ _ K) => ?_ | ((first | refine runL_go ?_ | refine sw_ret (ret0 ?_) | refine sw_ret ?_); simp (disch := (refine Om.mk ?_; omega)) only [go_sem, Try.results30]) | (refine hK.nil ?_; clear hK K; simp only [go_sem]) | ((first | refine sw_cond rfl ?_ ?_) <;> intro h <;> try simp (disch := (refine Om.mk ?_; omega)) only [go_sem] at h) | refine sw_exit rfl ?_ | refine sw_loopEnd ?_ | refine hK.c0 rfl rfl rfl (pairAt_fc x hx r a hrl hal) rfl rfl rfl ?_ | (with_reducible refine And.intro (by first | omega | (simp only [lens]; omega)) ?_) | ((with_reducible refine And.intro ?_ ?_); · first | (intro x hx; subst hx; rfl) | (intro x; refine And.intro ?_ ?_ <;> (intros; subst_vars; rfl))) | fail
   ·exact ⟨a + 1, (by (refine covers_mk0 rfl rfl ?_ ?_ ?_ ?_ <;> simp (disch := (refine Om.mk ?_; omega)) only [go_sem] <;> (try omega)); rw [hst.1 h, ← List.append_assoc, List.map_append (l₁ := prA x r ++ prR x r a), List.map_append (l₁ := prA x r)]; exact ⟨rfl, by omega⟩), by omega, by omega⟩
   ·exact ⟨a + 1, (by (refine covers_mk0 rfl rfl ?_ ?_ ?_ ?_ <;> simp (disch := (refine Om.mk ?_; omega)) only [go_sem] <;> (try omega)); rw [hst.2 h]; exact ⟨rfl, by omega⟩), by omega, by omega⟩
  ·repeat' first | ((exfalso; omega)) | refine sw_seq ?_ | refine sw_block ?_ | refine sw_inBlock ?_ | refine sw_skip ?_ | refine sw_go 0 kp30 fun K hK => ?_ | refine fun (K : KT) (hK : KOk S 0 _ _ _ K) => ?_ | ((first | refine runL_go ?_ | refine sw_ret (ret0 ?_) | refine sw_ret ?_); simp (disch := (refine Om.mk ?_; omega)) only [go_sem, Try.results30]) | (refine hK.nil ?_; clear hK K; simp only [go_sem]) | ((first | refine sw_cond rfl ?_ ?_) <;> intro h <;> try simp (disch := (refine Om.mk ?_; omega)) only [go_sem] at h) | refine sw_exit rfl ?_ | refine sw_loopEnd ?_ | (with_reducible refine And.intro (by first | omega | (simp only [lens]; omega)) ?_) | ((with_reducible refine And.intro ?_ ?_); · first | (intro x hx; subst hx; rfl) | (intro x; refine And.intro ?_ ?_ <;> (intros; subst_vars; rfl))) | fail
   exact ⟨r + 1, (by (refine covers_mk0 rfl rfl ?_ ?_ ?_ ?_ <;> simp (disch := (refine Om.mk ?_; omega)) only [go_sem] <;> (try omega)); rw [show prA x (r + 1) = prA x r ++ prR x r (x.rules.getD r default).r.length from rfl, show a = (x.rules.getD r default).r.length by omega]; exact ⟨rfl, by omega⟩), by omega, by omega⟩
 ·obtain rfl : r = x.rules.length := by omega
  repeat' first | ((exfalso; omega)) | refine sw_seq ?_ | refine sw_block ?_ | refine sw_inBlock ?_ | refine sw_skip ?_ | refine sw_go 0 kp30 fun K hK => ?_ | refine fun (K : KT) (hK : KOk S 0 _ _ _ K) => ?_ | ((first | refine runL_go ?_ | refine sw_ret (ret0 ?_) | refine sw_ret ?_); simp (disch := (refine Om.mk ?_; omega)) only [go_sem, Try.results30]) | (refine hK.nil ?_; clear hK K; simp only [go_sem]) | ((first | refine sw_cond rfl ?_ ?_) <;> intro h <;> try simp (disch := (refine Om.mk ?_; omega)) only [go_sem] at h) | refine sw_exit rfl ?_ | refine sw_loopEnd ?_ | (with_reducible refine And.intro (by first | omega | (simp only [lens]; omega)) ?_) | ((with_reducible refine And.intro ?_ ?_); · first | (intro x hx; subst hx; rfl) | (intro x; refine And.intro ?_ ?_ <;> (intros; subst_vars; rfl))) | fail
  ·rw [hB (by omega)]; exact ⟨rfl, rfl⟩
  ·rw [hA (by omega)]; exact ⟨rfl, rfl⟩
def kp16 : List (Nat × List Nat) := [(0, [1]), (1, [1, 6]), (2, [2, 3]), (3, [2, 3])]
attribute [go_sem] kp16
theorem implPairsOf_fc (x : SystemT) : FC S 16 [] [] [] [SystemD x] (.tup [.sl .any ((pairsR x).1.map DepPairD), .bool (pairsR x).2]) [] [] := by
 rcases Classical.em (SystemOkP x) with hx | hx
 ·skip
  refine fc_body Try.func16 rfl (by kernel_rfl) (by simp [Try.f16]) fun B => ?_
  simp only [Try.ntmps16, enumD, lst0, Nat.reduceAdd]
  repeat' first | ((exact absurd hx (by assumption))) | refine sw_seq ?_ | refine sw_skip ?_ | refine sw_go 0 kp16 fun K hK => ?_ | refine fun (K : KT) (hK : KOk S 0 _ _ _ K) => ?_ | ((first | refine runL_go ?_ | refine sw_ret (ret0 ?_) | refine sw_ret ?_); simp (disch := (refine Om.mk ?_; omega)) only [go_sem, Try.results16]) | (refine hK.nil ?_; clear hK K; simp only [go_sem]) | ((first | refine sw_cond rfl ?_ ?_) <;> intro h <;> try simp (disch := (refine Om.mk ?_; omega)) only [go_sem] at h) | refine sw_loopEnd ?_ | refine hK.c0 rfl rfl rfl (implSystemOk_fc _) rfl rfl rfl ?_ | refine hK.c0 rfl rfl rfl (pairs_fc x hx) rfl rfl rfl ?_ | (with_reducible refine And.intro (by first | omega | (simp only [lens]; omega)) ?_) | fail
 ·rw [pairsR_no fun h => hx h.1]
  refine fc_body Try.func16 rfl (by kernel_rfl) (by simp [Try.f16]) fun B => ?_
  simp only [Try.ntmps16, enumD, lst0, Nat.reduceAdd]
  repeat' first | ((exact absurd (by assumption) hx)) | refine sw_seq ?_ | refine sw_skip ?_ | refine sw_go 0 kp16 fun K hK => ?_ | refine fun (K : KT) (hK : KOk S 0 _ _ _ K) => ?_ | ((first | refine runL_go ?_ | refine sw_ret (ret0 ?_) | refine sw_ret ?_); simp (disch := (refine Om.mk ?_; omega)) only [go_sem, Try.results16]) | (refine hK.nil ?_; clear hK K; simp only [go_sem]) | ((first | refine sw_cond rfl ?_ ?_) <;> intro h <;> try simp (disch := (refine Om.mk ?_; omega)) only [go_sem] at h) | refine sw_loopEnd ?_ | refine hK.c0 rfl rfl rfl (implSystemOk_fc _) rfl rfl rfl ?_ | (with_reducible refine And.intro (by first | omega | (simp only [lens]; omega)) ?_) | fail
  all_goals exact ⟨rfl, rfl⟩
end Go.Proofs.Ytmogobaaophknaa
end
section
namespace Go.Proofs.Ytmogobaaophknaa
open Go Go.Lg
set_option linter.unusedSimpArgs false
set_option maxHeartbeats 4000000
attribute [local irreducible] SW runL runQ runG runQG FC Ret1
end Go.Proofs.Ytmogobaaophknaa
end
section
namespace Go.Proofs.Ytmogobaaophknaa
open Go Go.Lg
set_option linter.unusedSimpArgs false
set_option linter.unusedVariables false
set_option maxHeartbeats 4000000
theorem intoL_len (n : Int) : ∀ xs : List Int, (intoL xs n).length ≤ xs.length + 1
 | [] => by simp [intoL]
 | x :: r => by
  have ih := intoL_len n r
  unfold intoL
  split
  ·simp only [List.length_cons]; omega
  ·split <;> simp only [List.length_cons] <;> omega
end Go.Proofs.Ytmogobaaophknaa
end
section
namespace Go.Proofs.Ytmogobaaophknaa
open Go Go.Lg
set_option linter.unusedSimpArgs false
set_option linter.unusedVariables false
set_option maxHeartbeats 4000000
attribute [local irreducible] SW runL runQ runG runQG FC Ret1 toF redoL
def negV (t : List Int) (i : Nat) : List Int := (t.take i).foldl (fun s x => if x < 0 then intoL s (-1 - x) else s) []
theorem negV_succ (t : List Int) (i : Nat) (h : i < t.length) : negV t (i + 1) = if t.getD i default < 0 then intoL (negV t i) (-1 - t.getD i default) else negV t i := by
 unfold negV
 rw [List.take_succ_eq_append_getElem h, List.foldl_append]
 simp [List.getD, h]
theorem negV_len (t : List Int) : ∀ i ≤ t.length, (negV t i).length ≤ i
 | 0, _ => by simp [negV]
 | i + 1, hi => by
  have ih := negV_len t i (by omega)
  rw [negV_succ t i (by omega)]
  split
  ·have := intoL_len (-1 - t.getD i default) (negV t i); omega
  ·omega
def kp34 : List (Nat × List Nat) := [(0, [0]), (1, [0, 3]), (2, [0, 3, 4]), (3, [0, 3, 4, 9]), (5, [0, 3, 4, 16]), (6, [0, 3, 4]), (4, [0, 3, 4]), (7, [2])]
attribute [go_sem] kp34
end Go.Proofs.Ytmogobaaophknaa
end
section
namespace Go.Proofs.Ytmogobaaophknaa
open Go Go.Lg
set_option linter.unusedSimpArgs false
set_option linter.unusedVariables false
set_option maxHeartbeats 4000000
attribute [local irreducible] SW runL runQ runG runQG FC Ret1 DefP
theorem cap_len (x : SystemT) (t : List Int) : ∀ f a n, (capL x t f a n).1.length ≤ f ∧ n ≤ (capL x t f a n).2 ∧ (capL x t f a n).2 ≤ n + f
 | 0, a, n => by unfold capL; simp
 | f + 1, a, n => by
  unfold capL
  split
  ·split
   ·have := cap_len x t f (endS x.sig t a).toNat (n + 1)
    simp only [List.length_cons]; omega
   ·have := cap_len x t f (a + 1) n
    simp only [List.length_cons]; omega
  ·simp
theorem cap_fl {x : SystemT} {t : List Int} (hT : TermOkP x.sig t) : ∀ f a n k, a ≤ t.length → t.length ≤ a + f → (capL x t f a n).2 ≤ 24 → Fl x.sig k (t.drop a) → Fl x.sig k (capL x t f a n).1
 | 0, a, n, k, h1, h2, _, h => by
  rw [List.drop_of_length_le (by omega)] at h
  unfold capL; exact h
 | f + 1, a, n, k, h1, h2, hc, h => by
  have hl := cap_len x t f
  unfold capL at hc ⊢
  split
  ·rename_i ha
   rw [if_pos ha] at hc
   obtain ⟨q, rfl⟩ : ∃ q, k = q + 1 := by
    rw [List.drop_eq_getElem_cons ha] at h
    cases h; exact ⟨_, rfl⟩
   split
   ·rename_i hm
    rw [if_pos hm] at hc
    obtain ⟨l1, l2, e, f1, f2⟩ := Fl.split (t.drop a) 1 q (by rw [Nat.add_comm]; exact h)
    have ht : t = t.take a ++ (l1 ++ l2) := by rw [← e, List.take_append_drop]
    have hta : (t.take a).length = a := by rw [List.length_take]; omega
    have he := endS_app (p := t.take a) (r := l2) f1
    rw [← ht, hta] at he
    have hd : t.drop (endS x.sig t a).toNat = l2 := by
     rw [he, show ((a : Int) + (l1.length : Int)).toNat = a + l1.length by omega, ← List.drop_drop, e, List.drop_left]
    have hle : (endS x.sig t a).toNat ≤ t.length := by have := (endS_ge hT ha).2; omega
    have hgt := (endS_ge hT ha).1
    have ih := cap_fl hT f (endS x.sig t a).toNat (n + 1) q hle (by omega) hc (by rw [hd]; exact f2)
    have := (hl (endS x.sig t a).toNat (n + 1)).2.1
    dsimp only at hc
    have har : arS x.sig (-((n : Int) + 1)) = 0 := arS_var (by omega)
    exact .cons (by omega) (by rw [har]; exact ih)
   ·rename_i hm
    rw [if_neg hm] at hc
    rw [List.drop_eq_getElem_cons ha] at h
    have hg : t[a] = t.getD a default := by rw [List.getD_eq_getElem?_getD, List.getElem?_eq_getElem ha]; rfl
    rw [hg] at h
    cases h with
    | cons h0 hr => exact .cons h0 (cap_fl hT f (a + 1) n _ (by omega) (by omega) hc hr)
  ·rw [List.drop_of_length_le (by omega)] at h
   exact h
theorem cap_ok {x : SystemT} {t : List Int} (hT : TermOkP x.sig t) (hc : (capL x t 60 0 0).2 ≤ 24) : TermOkP x.sig (capL x t 60 0 0).1 :=
 fl_termOk hT.1 (cap_fl hT 60 0 0 1 (by omega) (by have := hT.2.1.2; omega) hc (termOk_fl hT)) (cap_len x t 60 0 0).1
attribute [local irreducible] mkO
end Go.Proofs.Ytmogobaaophknaa
end
section
namespace Go.Proofs.Ytmogobaaophknaa
open Go Go.Lg
set_option linter.unusedSimpArgs false
set_option linter.unusedVariables false
set_option maxHeartbeats 4000000
attribute [local irreducible] SW runL runQ runG runQG FC Ret1 bD
end Go.Proofs.Ytmogobaaophknaa
end
section
namespace Go.Proofs.Ytmogobaaophknaa
open Go Go.Lg
set_option linter.unusedVariables false
set_option linter.unusedSimpArgs false
end Go.Proofs.Ytmogobaaophknaa
end
section
namespace Go.Proofs.Ytmogobaaophknaa
open Go Go.Lg
set_option linter.unusedSimpArgs false
set_option linter.unusedVariables false
set_option maxHeartbeats 4000000
attribute [local irreducible] SW runL runQ runG runQG FC Ret1 bD OccP
theorem puL_bDs (f : Nat → Bool) (β : List (List Int)) : (β.map bD).map (D.pu1 f) = β.map bD := by
 rw [List.map_map]
 exact List.map_congr_left fun x _ => by
  show D.pu1 f (bD x) = bD x
  by_cases h : x = []
  ·rw [h, bD_nil]; rfl
  ·rw [bD_some h]; rfl
theorem puL_bools (f : Nat → Bool) (ys : List Bool) : (ys.map D.bool).map (D.pu1 f) = ys.map D.bool := by
 rw [List.map_map]
 exact List.map_congr_left fun x _ => rfl
attribute [go_sem] puL_bDs puL_bools
end Go.Proofs.Ytmogobaaophknaa
end
section
namespace Go.Proofs.Ytmogobaaophknaa
open Go Go.Lg
set_option linter.unusedSimpArgs false
set_option linter.unusedVariables false
set_option maxHeartbeats 4000000
attribute [local irreducible] SW runL runQ runG runQG FC Ret1 bD OccP
end Go.Proofs.Ytmogobaaophknaa
end
section
namespace Go.Proofs.Ytmogobaaophknaa
open Go Go.Lg
set_option linter.unusedSimpArgs false
set_option linter.unusedVariables false
set_option maxHeartbeats 4000000
attribute [local irreducible] SW runL runQ runG runQG FC Ret1
attribute [local irreducible] awF
end Go.Proofs.Ytmogobaaophknaa
end
section
namespace Go.Proofs.Ytmogobaaophknaa
open Go Go.Lg
set_option linter.unusedSimpArgs false
set_option linter.unusedVariables false
set_option maxHeartbeats 4000000
attribute [local irreducible] SW runL runQ runG runQG FC Ret1 toF redoL bD
def ConnP (x : SystemT) (p q : DepPairT) : Prop := p.r.getD 0 default = q.l.getD 0 default ∧ ((capL x p.r 60 0 0).2 ≤ 24 → ConnU x.sig (capL x p.r 60 0 0).1 q.l)
theorem conn_head {x : SystemT} {p q : DepPairT} (h : ¬ p.r.getD 0 default = q.l.getD 0 default) : tst (ConnP x p q) = false := tst_false fun e => h e.1
theorem conn_many {x : SystemT} {p q : DepPairT} (h : p.r.getD 0 default = q.l.getD 0 default) (hc : ¬ (capL x p.r 60 0 0).2 ≤ 24) : tst (ConnP x p q) = true := tst_true ⟨h, fun e => absurd e hc⟩
theorem conn_few {x : SystemT} {p q : DepPairT} (h : p.r.getD 0 default = q.l.getD 0 default) (hc : (capL x p.r 60 0 0).2 ≤ 24) {r : Bool} (hr : r = true ↔ ConnU x.sig (capL x p.r 60 0 0).1 q.l) : tst (ConnP x p q) = r := by
 cases r with
 | true => exact tst_true ⟨h, fun _ => hr.1 rfl⟩
 | false => exact tst_false fun e => by simpa using hr.2 (e.2 hc)
theorem rep48 : (List.replicate (Int.toNat 48) [D.sl Tk.nil []]).flatten = b0.map bD := by
 rw [List.flatten_replicate_singleton]
 unfold b0
 rw [List.map_replicate, bD_nil]
 rfl
attribute [local go_sem] rep48 idsL_bD tksL_bD puL_bDs
end Go.Proofs.Ytmogobaaophknaa
end
section
namespace Go.Proofs.Ytmogobaaophknaa
open Go Go.Lg
set_option linter.unusedSimpArgs false
set_option linter.unusedVariables false
set_option maxHeartbeats 4000000
theorem solve1_idle (p : Addr) (w : World) : CallsD Try.prog 53 #[.pointer (some p)] .returning w fun e u' w' => e = .returned (.tuple #[]) ∧ u' = .returning ∧ w' = w := by
 refine callsD_of_wpS Try.func53 rfl fun c₀ cs hu => ?_
 apply wpS_seq
 apply wpS_region
 simp [wpOpsS, go_sem, recoverD, hu, Try.ntmps53, Exit.thenS]
 apply wpS_seq
 apply wpS_region
 simp [wpOpsS, go_sem, recoverD, hu, Try.ntmps53, Exit.thenS]
 refine wpS_cond (t := false) (by simp [Act.eval, Array.replicate]) ?_
 simp only [Bool.false_eq_true, if_false]
 refine wpS_of_wp (wp_skip ?_)
 cases c₀
 simp_all [bodyPostS, results, Try.results53]
theorem solve1_pan (p : Addr) (x : Bool) (w : World) (hc : w.cell? p = some (.bool x)) (hz : w.frozen? p = false) : CallsD Try.prog 53 #[.pointer (some p)] (.panicking (chainE 87)) w fun e u' w' =>
  e = .returned (.tuple #[]) ∧ u' = .panicking [{ v := .iface 87 (.agg #[]), recovered := true }] ∧ w' = (w.alloc (.cells #[] 87)).setCell p (.bool false) := by
 refine callsD_of_wpS Try.func53 rfl fun c₀ cs hu => ?_
 unfold chainE at hu
 have hta : ∀ w, (Instr.typeAssert (.iface 87 (.agg #[])) 20 87 true).run Try.prog w = .ok (.tuple #[.agg #[], .bool true]) w := fun w => by kernel_rfl
 apply wpS_seq
 apply wpS_region
 simp [wpOpsS, go_sem, recoverD, hu, Try.ntmps53, Exit.thenS]
 apply wpS_seq
 apply wpS_region
 simp [wpOpsS, go_sem, recoverD, hu, Try.ntmps53, Exit.thenS]
 refine wpS_cond (t := true) (by simp [Act.eval, Array.replicate]) ?_
 simp only [if_true]
 apply wpS_seq
 apply wpS_seq
 apply wpS_region
 simp [wpOpsS, go_sem, recoverD, hu, Try.ntmps53, Exit.thenS, hta]
 have hb : p.block < w.heap.size := World.block_lt_of_cell? w p hc
 have hc2 : (w.alloc (.cells #[] 87)).cell? p = some (.bool x) := (World.cell?_alloc_old w _ p (Nat.ne_of_lt hb)).trans hc
 have hz2 : (w.alloc (.cells #[] 87)).frozen? p = false := (World.frozen?_alloc_old w _ p (Nat.ne_of_lt hb)).trans hz
 apply wpS_seq
 apply wpS_region
 simp [wpOpsS, go_sem, recoverD, hu, Try.ntmps53, Exit.thenS]
 refine wpS_cond (t := false) (by simp [Act.eval, Array.replicate]) ?_
 simp only [Bool.false_eq_true, if_false]
 refine wpS_of_wp (wp_skip ?_)
 simp only [Exit.thenS]
 apply wpS_region
 simp [wpOpsS, go_sem, hc2, hz2, bodyPostS, results, Try.results53, Try.ntmps53]
end Go.Proofs.Ytmogobaaophknaa
end
section
namespace Go.Proofs.Ytmogobaaophknaa
open Go Go.Lg
set_option linter.unusedSimpArgs false
set_option linter.unusedVariables false
set_option maxHeartbeats 4000000
attribute [local irreducible] SW runL runQ runG runQG FC Ret1 bD
def kp42 : List (Nat × List Nat) := [(0, [0, 1, 2, 6]), (1, [0, 1, 2, 6]), (2, [6]), (3, [6])]
attribute [go_sem] kp42
theorem solve_yes (id : Nat) (rs : List Int) (g f : Nat) (β β' : Bds) (hβ : BOK rs β) (a b : List Int) (hA : XT rs a) (hB : XT rs b) (he : eqM rs g f β a b = some (some β')) : FC S 42 [] [(id + 1000, uC rs β)] [] [.box (id + 1000) 0, .sl .any (a.map (.int .i64)), .sl .any (b.map (.int .i64))] (.bool true) [(id + 1000, uC rs β')] [] := by
 obtain ⟨_, cE⟩ := (equate_ok rs g id f β a b hβ hA hB).1 β' he
 unfold uC at *
 unfold FC
 refine ⟨⟨Try.f42, Try.func42, by kernel_rfl, rfl⟩, fun w G vals hs => ?_⟩
 refine calls_of_wp_defers Try.func42 rfl ?_
 have hs0 := start_sim (n := Try.f42.ntmps) hs (by simp [Try.f42])
 simp only [Try.ntmps42, enumD, Nat.zero_add, Nat.reduceAdd, List.map_cons, List.map_nil] at hs0 ⊢
 refine wp_seq (regW (L2 := ⟨12, [(0, .box (id + 1000) 0), (1, .sl .any (a.map (.int .i64))), (2, .sl .any (b.map (.int .i64))), (6, .box 6 0)], [(id + 1000, D.sl .any (rs.map (.int .i64)) :: β.map bD), (6, [.bool false])], [], [], [id + 1000]⟩) hs0 ?_ fun G1 a1 w1 hs1 => ?_)
 ·refine lops_go 0 ?_
  refine fun (K : List Oper → LS → Prop) (hK : KOk S 0 _ _ _ K) => ?_
  simp only [go_sem]
  repeat' first | refine sw_seq ?_ | refine sw_skip ?_ | refine sw_go 0 kp42 fun K hK => ?_ | refine fun (K : KT) (hK : KOk S 0 _ _ _ K) => ?_ | ((first | refine runL_go ?_ | refine sw_ret (ret0 ?_) | refine sw_ret ?_); simp (disch := (refine Om.mk ?_; omega)) only [go_sem, Try.results42]) | (refine hK.nil ?_; clear hK K; simp only [go_sem]) | refine sw_loopEnd ?_ | (with_reducible refine And.intro (by first | omega | (simp only [lens]; omega)) ?_) | fail
  refine hK.nil ?_
  (refine covers_mk0 rfl rfl ?_ ?_ ?_ ?_ <;> simp (disch := (refine Om.mk ?_; omega)) only [go_sem] <;> (try omega))
 refine wp_seq (regA 1 (L1 := ⟨12, [(0, .box (id + 1000) 0), (1, .sl .any (a.map (.int .i64))), (2, .sl .any (b.map (.int .i64))), (6, .box 6 0), (7, .fn 53 [.box 6 0])], [(id + 1000, D.sl .any (rs.map (.int .i64)) :: β.map bD), (6, [.bool false])], [], [], [id + 1000]⟩) hs1 ?_ fun G2 a2 w2 hs2 => ?_)
 ·refine lops_go 0 ?_
  refine fun (K : List Oper → LS → Prop) (hK : KOk S 0 _ _ _ K) => ?_
  simp only [go_sem]
  repeat' first | refine sw_seq ?_ | refine sw_skip ?_ | refine sw_go 0 kp42 fun K hK => ?_ | refine fun (K : KT) (hK : KOk S 0 _ _ _ K) => ?_ | ((first | refine runL_go ?_ | refine sw_ret (ret0 ?_) | refine sw_ret ?_); simp (disch := (refine Om.mk ?_; omega)) only [go_sem, Try.results42]) | (refine hK.nil ?_; clear hK K; simp only [go_sem]) | refine sw_loopEnd ?_ | (with_reducible refine And.intro (by first | omega | (simp only [lens]; omega)) ?_) | fail
  refine hK.nil ?_
  (refine covers_mk0 rfl rfl ?_ ?_ ?_ ?_ <;> simp (disch := (refine Om.mk ?_; omega)) only [go_sem] <;> (try omega))
 obtain ⟨v7, hv7, hr7⟩ := hs2.env 7 _ rfl
 cases hr7 with
 | @fn _ _ vl hl hr =>
 obtain ⟨u6, rfl⟩ : ∃ u, vl = [u] := by
  match vl, hl with
  | [u], _ => exact ⟨u, rfl⟩
 have h6 := hr 0 (.box 6 0) u6 rfl rfl
 cases h6 with
 | @box _ _ g0 hb =>
 simp only [List.drop_succ_cons, List.drop_zero]
 refine wpList_step fun N hN => ?_
 rw [if_pos (by simp [Region.wanted])]
 unfold Oper.wp
 have hrun : ∀ (ty : TypeId) (pos : String) (aft : Array Go.Edge), (execOp a2.eval ⟨none, .defer ⟨.value (.tmp 7), #[], #[]⟩, ty, pos, aft, none⟩).run S.P w2 = .ok (.defer { target := .fn (.func 53) #[.pointer (some ⟨g0, 0, none⟩)], args := #[] }) w2 := fun _ _ _ => by
  simp [execOp, Act.eval, hv7, resolve, Deferred.ofValue]
 rw [hrun, Oper.upon_defer]
 refine hN _ _ (wpList_nil ?_)
 rw [hs2.defers]
 have hno : ∀ (R : Ending → World → Prop), (∀ w, ¬ R .outgrown w) → ∀ a w, ¬ bodyPostD S.P Try.f42 R .outgrown a w := fun R h a w hx => h w hx
 refine wp_seq (regD (L2 := ⟨12, [(6, .box 6 0)], [(id + 1000, D.sl .any (rs.map (.int .i64)) :: β'.map bD), (6, [.bool false])], [], [], [id + 1000]⟩) hs2 (fun a w hx => by obtain ⟨v, _, h, _⟩ := hx; cases h) ?_ fun G3 a3 w3 hs3 => ?_)
 ·refine lops_go 0 ?_
  refine fun (K : List Oper → LS → Prop) (hK : KOk S 0 _ _ _ K) => ?_
  simp only [go_sem]
  repeat' first | ((refine hK.callB rfl rfl rfl (cE) (by refine ⟨⟨?_, ?_, ?_, ?_, ?_⟩, ⟨?_, ?_, ?_, ?_, ?_⟩, ?_⟩ <;> simp [-List.map_set, LS.getBox, Lg.look, D.ids, D.idsL, idsL_bool, idsL_bD, LS.clean, D.puOk, D.pu, D.pu1, D.tks, D.tksL, tksU_ints, tksL_bool, tksL_bD, puOk_intsU, puOk_bool, puOk_bD, inTok]) ?_; simp (disch := (refine Om.mk ?_; omega)) only [go_sem])) | refine sw_seq ?_ | refine sw_skip ?_ | refine sw_go 0 kp42 fun K hK => ?_ | refine fun (K : KT) (hK : KOk S 0 _ _ _ K) => ?_ | ((first | refine runL_go ?_ | refine sw_ret (ret0 ?_) | refine sw_ret ?_); simp (disch := (refine Om.mk ?_; omega)) only [go_sem, Try.results42]) | (refine hK.nil ?_; clear hK K; simp only [go_sem]) | refine sw_loopEnd ?_ | (with_reducible refine And.intro (by first | omega | (simp only [lens]; omega)) ?_) | fail
  refine hK.nil ?_
  (refine covers_mk0 rfl rfl ?_ ?_ ?_ ?_ <;> simp (disch := (refine Om.mk ?_; omega)) only [go_sem] <;> (try omega))
 refine wp_seq (regD (L2 := ⟨12, [(6, .box 6 0)], [(id + 1000, D.sl .any (rs.map (.int .i64)) :: β'.map bD), (6, [.bool true])], [], [], [id + 1000]⟩) hs3 (fun a w hx => by obtain ⟨v, _, h, _⟩ := hx; cases h) ?_ fun G4 a4 w4 hs4 => ?_)
 ·refine lops_go 0 ?_
  refine fun (K : List Oper → LS → Prop) (hK : KOk S 0 _ _ _ K) => ?_
  simp only [go_sem]
  repeat' first | refine sw_seq ?_ | refine sw_skip ?_ | refine sw_go 0 kp42 fun K hK => ?_ | refine fun (K : KT) (hK : KOk S 0 _ _ _ K) => ?_ | ((first | refine runL_go ?_ | refine sw_ret (ret0 ?_) | refine sw_ret ?_); simp (disch := (refine Om.mk ?_; omega)) only [go_sem, Try.results42]) | (refine hK.nil ?_; clear hK K; simp only [go_sem]) | refine sw_loopEnd ?_ | (with_reducible refine And.intro (by first | omega | (simp only [lens]; omega)) ?_) | fail
  refine hK.nil ?_
  (refine covers_mk0 rfl rfl ?_ ?_ ?_ ?_ <;> simp (disch := (refine Om.mk ?_; omega)) only [go_sem] <;> (try omega))
 have hEn : Lg.Enters S.P 53 := ⟨Try.f53, Try.func53, by kernel_rfl, rfl⟩
 refine wp_ret ?_
 refine leaves_cons (f := 53) (args := #[.pointer (some ⟨g0, 0, none⟩)]) (by simp) (by simp [invoke, enter_run hEn]) ?_
 refine (solve1_idle ⟨g0, 0, none⟩ w4).mono ?_
 rintro e u' w' ⟨rfl, rfl, rfl⟩
 have hRet : Ret S Try.f42.results.toList (.bool true) [(id + 1000, D.sl .any (rs.map (.int .i64)) :: β'.map bD)] ⟨12, [(6, .box 6 0)], [(id + 1000, D.sl .any (rs.map (.int .i64)) :: β'.map bD), (6, [.bool true])], [], [], [id + 1000]⟩ := by
  rw [Try.results42]
  refine ret0 ?_
  simp only [go_sem]
  all_goals trace_state
 obtain ⟨v, hrn, G5, hE⟩ := ret_end hs.fixed hs4 hRet
 exact ⟨v, hrn, v, G5, rfl, hE⟩
theorem solve_no (id : Nat) (rs : List Int) (g f : Nat) (β : Bds) (hβ : BOK rs β) (a b : List Int) (hA : XT rs a) (hB : XT rs b) (he : eqM rs g f β a b = some none) : FC S 42 [] [(id + 1000, uC rs β)] [] [.box (id + 1000) 0, .sl .any (a.map (.int .i64)), .sl .any (b.map (.int .i64))] (.bool false) [] [] := by
 have cX := (equate_ok rs g id f β a b hβ hA hB).2 he
 unfold uC at *
 unfold FC
 refine ⟨⟨Try.f42, Try.func42, by kernel_rfl, rfl⟩, fun w G vals hs => ?_⟩
 refine calls_of_wp_defers Try.func42 rfl ?_
 have hs0 := start_sim (n := Try.f42.ntmps) hs (by simp [Try.f42])
 simp only [Try.ntmps42, enumD, Nat.zero_add, Nat.reduceAdd, List.map_cons, List.map_nil] at hs0 ⊢
 refine wp_seq (regW (L2 := ⟨12, [(0, .box (id + 1000) 0), (1, .sl .any (a.map (.int .i64))), (2, .sl .any (b.map (.int .i64))), (6, .box 6 0)], [(id + 1000, D.sl .any (rs.map (.int .i64)) :: β.map bD), (6, [.bool false])], [], [], [id + 1000]⟩) hs0 ?_ fun G1 a1 w1 hs1 => ?_)
 ·refine lops_go 0 ?_
  refine fun (K : List Oper → LS → Prop) (hK : KOk S 0 _ _ _ K) => ?_
  simp only [go_sem]
  repeat' first | refine sw_seq ?_ | refine sw_skip ?_ | refine sw_go 0 kp42 fun K hK => ?_ | refine fun (K : KT) (hK : KOk S 0 _ _ _ K) => ?_ | ((first | refine runL_go ?_ | refine sw_ret (ret0 ?_) | refine sw_ret ?_); simp (disch := (refine Om.mk ?_; omega)) only [go_sem, Try.results42]) | (refine hK.nil ?_; clear hK K; simp only [go_sem]) | refine sw_loopEnd ?_ | (with_reducible refine And.intro (by first | omega | (simp only [lens]; omega)) ?_) | fail
  refine hK.nil ?_
  (refine covers_mk0 rfl rfl ?_ ?_ ?_ ?_ <;> simp (disch := (refine Om.mk ?_; omega)) only [go_sem] <;> (try omega))
 refine wp_seq (regA 1 (L1 := ⟨12, [(0, .box (id + 1000) 0), (1, .sl .any (a.map (.int .i64))), (2, .sl .any (b.map (.int .i64))), (6, .box 6 0), (7, .fn 53 [.box 6 0])], [(id + 1000, D.sl .any (rs.map (.int .i64)) :: β.map bD), (6, [.bool false])], [], [], [id + 1000]⟩) hs1 ?_ fun G2 a2 w2 hs2 => ?_)
 ·refine lops_go 0 ?_
  refine fun (K : List Oper → LS → Prop) (hK : KOk S 0 _ _ _ K) => ?_
  simp only [go_sem]
  repeat' first | refine sw_seq ?_ | refine sw_skip ?_ | refine sw_go 0 kp42 fun K hK => ?_ | refine fun (K : KT) (hK : KOk S 0 _ _ _ K) => ?_ | ((first | refine runL_go ?_ | refine sw_ret (ret0 ?_) | refine sw_ret ?_); simp (disch := (refine Om.mk ?_; omega)) only [go_sem, Try.results42]) | (refine hK.nil ?_; clear hK K; simp only [go_sem]) | refine sw_loopEnd ?_ | (with_reducible refine And.intro (by first | omega | (simp only [lens]; omega)) ?_) | fail
  refine hK.nil ?_
  (refine covers_mk0 rfl rfl ?_ ?_ ?_ ?_ <;> simp (disch := (refine Om.mk ?_; omega)) only [go_sem] <;> (try omega))
 obtain ⟨v7, hv7, hr7⟩ := hs2.env 7 _ rfl
 cases hr7 with
 | @fn _ _ vl hl hr =>
 obtain ⟨u6, rfl⟩ : ∃ u, vl = [u] := by
  match vl, hl with
  | [u], _ => exact ⟨u, rfl⟩
 have h6 := hr 0 (.box 6 0) u6 rfl rfl
 cases h6 with
 | @box _ _ g0 hb =>
 simp only [List.drop_succ_cons, List.drop_zero]
 refine wpList_step fun N hN => ?_
 rw [if_pos (by simp [Region.wanted])]
 unfold Oper.wp
 have hrun : ∀ (ty : TypeId) (pos : String) (aft : Array Go.Edge), (execOp a2.eval ⟨none, .defer ⟨.value (.tmp 7), #[], #[]⟩, ty, pos, aft, none⟩).run S.P w2 = .ok (.defer { target := .fn (.func 53) #[.pointer (some ⟨g0, 0, none⟩)], args := #[] }) w2 := fun _ _ _ => by
  simp [execOp, Act.eval, hv7, resolve, Deferred.ofValue]
 rw [hrun, Oper.upon_defer]
 refine hN _ _ (wpList_nil ?_)
 rw [hs2.defers]
 have hEn : Lg.Enters S.P 53 := ⟨Try.f53, Try.func53, by kernel_rfl, rfl⟩
 refine wp_seq (regD0 hs2.defers (fun a w hx => by obtain ⟨v, _, h, _⟩ := hx; cases h) ?_)
 refine move_step (move_step (move_step ?_))
 have hs3a := hs2.put (t := 8) (by show 8 < 12; decide) (eval_sound hs2 (x := .tmp 0) (d := .box (id + 1000) 0) rfl)
 have hs3b := hs3a.put (t := 9) (by show 9 < 12; decide) (eval_sound hs3a (x := .tmp 1) (d := .sl .any (a.map (.int .i64))) rfl)
 have hs3 := hs3b.put (t := 10) (by show 10 < 12; decide) (eval_sound hs3b (x := .tmp 2) (d := .sl .any (b.map (.int .i64))) rfl)
 refine wpList_callX hs3 rfl rfl rfl cX ⟨by simp, by simp [Lg.look, LS.put], by simp⟩ 1000000 (by simp [-List.map_set, LS.put, setA, LS.clean, D.tks, D.tksL, tksU_ints, tksL_bool, tksL_bD, tksU_nat, inTok]) fun G4 w4 hs4 => ⟨by simp only [put_defers]; exact hs2.defers, ?_⟩
 refine leaves_cons (f := 53) (args := #[.pointer (some ⟨g0, 0, none⟩)]) (by simp) (by simp [invoke, enter_run hEn]) ?_
 have hs5 := hs4.less (L' := ⟨12, [(6, .box 6 0)], [(6, [.bool false])], [], [], [id + 1000]⟩) (by (refine covers_mk0 rfl rfl ?_ ?_ ?_ ?_ <;> simp (disch := (refine Om.mk ?_; omega)) only [go_sem] <;> (try omega)))
 obtain ⟨y, hy, hry⟩ := hs2.env 6 (.box 6 0) rfl
 cases hry with
 | @box _ _ g2 hb2 =>
 obtain rfl : g0 = g2 := Option.some.inj (hb.symm.trans hb2)
 obtain ⟨x6, hx6, hr6⟩ := hs5.env 6 (.box 6 0) rfl
 have hx : x6 = .pointer (some ⟨g0, 0, none⟩) := by
  have h1 : (((a2.put (some 8) (a2.eval (.tmp 0))).put (some 9) ((a2.put (some 8) (a2.eval (.tmp 0))).eval (.tmp 1))).put (some 10) (((a2.put (some 8) (a2.eval (.tmp 0))).put (some 9) ((a2.put (some 8) (a2.eval (.tmp 0))).eval (.tmp 1))).eval (.tmp 2))).tmps[6]? = a2.tmps[6]? := by
   simp [Act.put, Array.getElem?_setIfInBounds]
  rw [h1, hy] at hx6
  exact (Option.some.inj hx6).symm
 subst hx
 cases hr6 with
 | box hb4 =>
 obtain ⟨g1, k1, ⟨vs, e, e1, e2, e3⟩, k3, k4⟩ := hs5.W.boxes 6 [.bool false] rfl
 obtain rfl : g0 = g1 := Option.some.inj (hb4.symm.trans k1)
 have hv0 : vs[0]? = some (.bool false) := by
  have hlt : 0 < vs.size := by simp at e2; omega
  have := e3 0 (.bool false) vs[0] rfl (by simp [hlt])
  generalize hvs : vs[0] = v at this
  cases this
  simp [hlt, hvs]
 have hc : w4.cell? ⟨g0, 0, none⟩ = some (.bool false) := by
  simp [World.cell?, e1, hv0]
 have hz : w4.frozen? ⟨g0, 0, none⟩ = false := by
  simp [World.frozen?, e1]
 refine (solve1_pan ⟨g0, 0, none⟩ false w4 hc hz).mono ?_
 rintro e' u' w' ⟨rfl, rfl, rfl⟩
 have hs6 := alloc_sim hs5 (.cells #[] 87) 0
 obtain ⟨g5, w5, q1, q2, hs7⟩ := store_sim hs6 (id := 6) (off := 0) (cs := [.bool false]) (new := [.bool false]) (vl := [.bool false]) rfl (by simp) rfl (fun j d v hd hv => by
  match j, hd, hv with
  | 0, hd, hv =>
   simp at hd hv
   subst hd; subst hv
   exact .bool) (by simp [Value.oneCell'])
 have hg5 : g0 = g5 := Option.some.inj (k1.symm.trans q1)
 subst hg5
 have hw5 : w5 = (w4.alloc (.cells #[] 87)).setCell ⟨g0, 0, none⟩ (.bool false) := by
  have h1 := q2 S.P
  have hblk : g0 < w4.heap.size := World.block_lt_of_cell? w4 ⟨g0, 0, none⟩ hc
  have hc2 : (w4.alloc (.cells #[] 87)).cell? ⟨g0, 0, none⟩ = some (.bool false) := (World.cell?_alloc_old w4 _ ⟨g0, 0, none⟩ (Nat.ne_of_lt hblk)).trans hc
  have hz2 : (w4.alloc (.cells #[] 87)).frozen? ⟨g0, 0, none⟩ = false := (World.frozen?_alloc_old w4 _ ⟨g0, 0, none⟩ (Nat.ne_of_lt hblk)).trans hz
  simp [storeCells, go_sem, hc2, hz2] at h1
  exact h1.symm
 subst hw5
 have hRet : Ret S Try.f42.results.toList (.bool false) [] ⟨12, [(6, .box 6 0)], [(6, [.bool false])], [], [], [id + 1000]⟩ := by
  rw [Try.results42]
  refine ret0 ?_
  simp only [go_sem]
  all_goals trace_state
 obtain ⟨v, hrn, G8, hE⟩ := ret_end hs.fixed hs7 hRet
 exact ⟨v, hrn, v, G8, rfl, hE⟩
end Go.Proofs.Ytmogobaaophknaa
end
section
namespace Go.Proofs.Ytmogobaaophknaa
open Go Go.Lg
set_option linter.unusedSimpArgs false
set_option linter.unusedVariables false
set_option maxHeartbeats 4000000
attribute [local irreducible] SW runL runQ runG runQG FC Ret1 toF redoL
theorem uC_zeroP (rs : List Int) : uC rs b0 = [.sl .any (rs.map (.int .i64)), .sl .nil [], .sl .nil [], .sl .nil [], .sl .nil [], .sl .nil [], .sl .nil [], .sl .nil [], .sl .nil [], .sl .nil [], .sl .nil [], .sl .nil [], .sl .nil [], .sl .nil [], .sl .nil [], .sl .nil [], .sl .nil [], .sl .nil [], .sl .nil [], .sl .nil [], .sl .nil [], .sl .nil [], .sl .nil [], .sl .nil [], .sl .nil [], .sl .nil [], .sl .nil [], .sl .nil [], .sl .nil [], .sl .nil [], .sl .nil [], .sl .nil [], .sl .nil [], .sl .nil [], .sl .nil [], .sl .nil [], .sl .nil [], .sl .nil [], .sl .nil [], .sl .nil [], .sl .nil [], .sl .nil [], .sl .nil [], .sl .nil [], .sl .nil [], .sl .nil [], .sl .nil [], .sl .nil [], .sl .nil []] := by
 unfold uC b0
 simp [List.replicate, bD_nil]
theorem lenAll {x : SystemT} (hx : SystemOkP x) : ∀ r ∈ x.rules, 1 ≤ r.l.length := fun r hr => by
 obtain ⟨j, hj, rfl⟩ := List.getElem_of_mem hr
 have := (hx.2 j hj).1.1.2.1.1
 rwa [List.getD_eq_getElem?_getD, List.getElem?_eq_getElem hj] at this
attribute [local irreducible] bD
def kp31 : List (Nat × List Nat) := [(0, [3, 4, 5]), (1, [3, 4, 5, 18]), (2, [6]), (3, [3, 5, 7, 8]), (4, [3, 5, 7, 27]), (5, [6]), (6, [5, 7, 9]), (7, [6])]
attribute [go_sem] kp31
theorem connected_fc (x : SystemT) (hx : SystemOkP x) (p q : DepPairT) (hp : PrOk x.sig p) (hq : PrOk x.sig q) : FC S 31 [] [] [] [SystemD x, DepPairD p, DepPairD q] (.bool (tst (ConnP x p q))) [] [] := by
 have cC := capped_fc x p.r hp.1.2 (lenAll hx)
 have hpl := hp.1.2.2.1
 have hql := hq.1.1.2.1
 have cW := away_fc q.l (by omega) hq.1.1.ge
 by_cases hh : p.r.getD 0 default = q.l.getD 0 default
 ·by_cases hc : (capL x p.r 60 0 0).2 ≤ 24
  ·have hX := XT.of (cap_ok hp.1.2 hc)
   obtain ⟨f, r, hr, hri⟩ := conn_impl hX hq.1.1
   rw [show decide ((((capL x p.r 60 0 0).2 : Nat) : Int) ≤ 24) = true from decide_eq_true (by omega)] at cC
   rw [conn_few hh hc hri]
   generalize (capL x p.r 60 0 0).1 = out at *
   cases r with
   | some β' =>
    have cY := solve_yes 1031 x.sig 60 f b0 β' (b0_ok _) _ _ hX (XT.away hq.1.1) hr
    rw [uC_zeroP] at cY
    show FC S 31 [] [] [] [SystemD x, DepPairD p, DepPairD q] (.bool true) [] []
    unfold uC at cY
    refine fc_body Try.func31 rfl (by kernel_rfl) (by simp [Try.f31]) fun B => ?_
    simp only [Try.ntmps31, enumD, lst0, Nat.reduceAdd]
    repeat' first | ((exfalso; omega)) | ((refine hK.callB rfl rfl rfl (cY) (by refine ⟨⟨?_, ?_, ?_, ?_, ?_⟩, ⟨?_, ?_, ?_, ?_, ?_⟩, ?_⟩ <;> simp [-List.map_set, LS.getBox, Lg.look, D.ids, D.idsL, idsL_bool, idsL_bD, LS.clean, D.puOk, D.pu, D.pu1, D.tks, D.tksL, tksU_ints, tksL_bool, tksL_bD, puOk_intsU, puOk_bool, puOk_bD, inTok]) ?_; simp (disch := (refine Om.mk ?_; omega)) only [go_sem])) | refine sw_seq ?_ | refine sw_skip ?_ | refine sw_go 2000 kp31 fun K hK => ?_ | refine fun (K : KT) (hK : KOk S 2000 _ _ _ K) => ?_ | refine sw_goD kp31 (by kernel_rfl) fun K hK => ?_ | ((first | refine runL_go ?_ | refine runQ_go ?_ | refine sw_ret (ret0 ?_) | refine sw_ret ?_); simp (disch := (refine Om.mk ?_; omega)) only [go_sem, Try.results31]) | (refine hK.nil ?_; clear hK K; simp only [go_sem]) | ((first | refine sw_cond rfl ?_ ?_) <;> intro h <;> try simp (disch := (refine Om.mk ?_; omega)) only [go_sem] at h) | refine sw_loopEnd ?_ | refine hK.c0 rfl rfl rfl (cC) rfl rfl rfl ?_ | refine hK.c0 rfl rfl rfl (cW) rfl rfl rfl ?_ | (with_reducible refine And.intro (by first | omega | (simp only [lens]; omega)) ?_) | ((with_reducible refine And.intro ?_ ?_); · first | (intro x hx; subst hx; rfl) | (intro x; refine And.intro ?_ ?_ <;> (intros; subst_vars; rfl))) | fail
    all_goals trace_state
   | none =>
    have cY := solve_no 1031 x.sig 60 f b0 (b0_ok _) _ _ hX (XT.away hq.1.1) hr
    rw [uC_zeroP] at cY
    show FC S 31 [] [] [] [SystemD x, DepPairD p, DepPairD q] (.bool false) [] []
    refine fc_body Try.func31 rfl (by kernel_rfl) (by simp [Try.f31]) fun B => ?_
    simp only [Try.ntmps31, enumD, lst0, Nat.reduceAdd]
    repeat' first | ((exfalso; omega)) | ((refine hK.callB rfl rfl rfl (cY) (by refine ⟨⟨?_, ?_, ?_, ?_, ?_⟩, ⟨?_, ?_, ?_, ?_, ?_⟩, ?_⟩ <;> simp [-List.map_set, LS.getBox, Lg.look, D.ids, D.idsL, idsL_bool, idsL_bD, LS.clean, D.puOk, D.pu, D.pu1, D.tks, D.tksL, tksU_ints, tksL_bool, tksL_bD, puOk_intsU, puOk_bool, puOk_bD, inTok]) ?_; simp (disch := (refine Om.mk ?_; omega)) only [go_sem])) | refine sw_seq ?_ | refine sw_skip ?_ | refine sw_go 2000 kp31 fun K hK => ?_ | refine fun (K : KT) (hK : KOk S 2000 _ _ _ K) => ?_ | refine sw_goD kp31 (by kernel_rfl) fun K hK => ?_ | ((first | refine runL_go ?_ | refine runQ_go ?_ | refine sw_ret (ret0 ?_) | refine sw_ret ?_); simp (disch := (refine Om.mk ?_; omega)) only [go_sem, Try.results31]) | (refine hK.nil ?_; clear hK K; simp only [go_sem]) | ((first | refine sw_cond rfl ?_ ?_) <;> intro h <;> try simp (disch := (refine Om.mk ?_; omega)) only [go_sem] at h) | refine sw_loopEnd ?_ | refine hK.c0 rfl rfl rfl (cC) rfl rfl rfl ?_ | refine hK.c0 rfl rfl rfl (cW) rfl rfl rfl ?_ | (with_reducible refine And.intro (by first | omega | (simp only [lens]; omega)) ?_) | ((with_reducible refine And.intro ?_ ?_); · first | (intro x hx; subst hx; rfl) | (intro x; refine And.intro ?_ ?_ <;> (intros; subst_vars; rfl))) | fail
    all_goals trace_state
  ·rw [conn_many hh hc]
   rw [show decide ((((capL x p.r 60 0 0).2 : Nat) : Int) ≤ 24) = false from decide_eq_false (by omega)] at cC
   generalize (capL x p.r 60 0 0).1 = out at *
   refine fc_body Try.func31 rfl (by kernel_rfl) (by simp [Try.f31]) fun B => ?_
   simp only [Try.ntmps31, enumD, lst0, Nat.reduceAdd]
   repeat' first | ((exfalso; omega)) | refine sw_seq ?_ | refine sw_skip ?_ | refine sw_go 2000 kp31 fun K hK => ?_ | refine fun (K : KT) (hK : KOk S 2000 _ _ _ K) => ?_ | refine sw_goD kp31 (by kernel_rfl) fun K hK => ?_ | ((first | refine runL_go ?_ | refine runQ_go ?_ | refine sw_ret (ret0 ?_) | refine sw_ret ?_); simp (disch := (refine Om.mk ?_; omega)) only [go_sem, Try.results31]) | (refine hK.nil ?_; clear hK K; simp only [go_sem]) | ((first | refine sw_cond rfl ?_ ?_) <;> intro h <;> try simp (disch := (refine Om.mk ?_; omega)) only [go_sem] at h) | refine sw_loopEnd ?_ | refine hK.c0 rfl rfl rfl (cC) rfl rfl rfl ?_ | (with_reducible refine And.intro (by first | omega | (simp only [lens]; omega)) ?_) | ((with_reducible refine And.intro ?_ ?_); · first | (intro x hx; subst hx; rfl) | (intro x; refine And.intro ?_ ?_ <;> (intros; subst_vars; rfl))) | fail
 ·rw [conn_head hh]
  refine fc_body Try.func31 rfl (by kernel_rfl) (by simp [Try.f31]) fun B => ?_
  simp only [Try.ntmps31, enumD, lst0, Nat.reduceAdd]
  repeat' first | ((exfalso; omega)) | refine sw_seq ?_ | refine sw_skip ?_ | refine sw_go 2000 kp31 fun K hK => ?_ | refine fun (K : KT) (hK : KOk S 2000 _ _ _ K) => ?_ | refine sw_goD kp31 (by kernel_rfl) fun K hK => ?_ | ((first | refine runL_go ?_ | refine runQ_go ?_ | refine sw_ret (ret0 ?_) | refine sw_ret ?_); simp (disch := (refine Om.mk ?_; omega)) only [go_sem, Try.results31]) | (refine hK.nil ?_; clear hK K; simp only [go_sem]) | ((first | refine sw_cond rfl ?_ ?_) <;> intro h <;> try simp (disch := (refine Om.mk ?_; omega)) only [go_sem] at h) | refine sw_loopEnd ?_ | (with_reducible refine And.intro (by first | omega | (simp only [lens]; omega)) ?_) | ((with_reducible refine And.intro ?_ ?_); · first | (intro x hx; subst hx; rfl) | (intro x; refine And.intro ?_ ?_ <;> (intros; subst_vars; rfl))) | fail
end Go.Proofs.Ytmogobaaophknaa
end
