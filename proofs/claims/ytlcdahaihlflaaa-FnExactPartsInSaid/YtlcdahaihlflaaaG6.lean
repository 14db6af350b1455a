/-
  A17q, A17i, U01, one behind the other.
-/
import Derived.Test.YtlcdahaihlflaaaG5
import Derived.Test.YtlcdahaihlflaaaG1
section
namespace Go.Proofs.Ytlcdahaihlflaaa
open Go Go.Lg
set_option linter.unusedSimpArgs false
set_option linter.unusedVariables false
set_option maxHeartbeats 4000000
attribute [local irreducible] SW runL runQ runG runQG FC Ret1 toF redoL
theorem defP_mem {x : SystemT} {n : Int} : n ∈ defL x.rules x.rules.length ↔ DefP x n := defL_all x.rules n
theorem hasSub_no {rs t : List Int} {u : List Int} (h : ∀ j < t.length, 1 ≤ j → subS rs t j ≠ u) : ¬ HasSub rs t 1 u := fun ⟨a, h1, e⟩ => h a h1.2 h1.1 e
open Classical in
noncomputable def atR (x : SystemT) (r a : Nat) : DepPairT × Bool := if PairP x r a then (mkP x r a, true) else (⟨[], [], 0, 0⟩, false)
theorem atR_yes {x : SystemT} {r a : Nat} (h : PairP x r a) : atR x r a = (mkP x r a, true) := if_pos h
theorem atR_no {x : SystemT} {r a : Nat} (h : ¬ PairP x r a) : atR x r a = (⟨[], [], 0, 0⟩, false) := if_neg h
theorem prR_at {x : SystemT} {r a : Nat} : ((atR x r a).2 = true → prR x r (a + 1) = prR x r a ++ [(atR x r a).1]) ∧ ((atR x r a).2 = false → prR x r (a + 1) = prR x r a) := by
 by_cases h : PairP x r a
 ·rw [atR_yes h, prR_yes h]; exact ⟨fun _ => rfl, fun e => Bool.noConfusion e⟩
 ·rw [atR_no h, prR_no h]; exact ⟨fun e => Bool.noConfusion e, fun _ => rfl⟩
def kp153 : List (Nat × List Nat) := [(0, [1, 2, 3]), (1, [1, 2, 3, 7]), (2, [1, 2, 3, 7, 11]), (4, [1, 2, 3, 7, 22]), (5, [6]), (3, [1, 2, 3, 7]), (6, [6])]
attribute [go_sem] kp153
theorem l17Part_fc (rs t u : List Int) (hT : TermOkP rs t) : FC S 153 [] [] [] [.agg [.sl .any (rs.map (.int .i64))], .sl .any (t.map (.int .i64)), .sl .any (u.map (.int .i64))] (.bool (tst (HasSub rs t 1 u))) [] [] := by
 have hl := hT.2.1
 refine fc_body Try.func153 rfl (by kernel_rfl) (by simp [Try.f153]) fun B => ?_
 simp only [Try.ntmps153, enumD, lst0, Nat.reduceAdd]
 repeat' first | refine sw_seq ?_ | refine sw_block ?_ | refine sw_inBlock ?_ | refine sw_skip ?_ | refine sw_go 0 kp153 fun K hK => ?_ | refine fun (K : KT) (hK : KOk S 0 _ _ _ K) => ?_ | ((first | refine runL_go ?_ | refine sw_ret (ret0 ?_) | refine sw_ret ?_); simp (disch := (refine Om.mk ?_; omega)) only [go_sem, Try.results153]) | (refine hK.nil ?_; clear hK K; simp only [go_sem]) | ((first | refine sw_cond rfl ?_ ?_) <;> intro h <;> try simp (disch := (refine Om.mk ?_; omega)) only [go_sem] at h) | refine sw_exit rfl ?_ | refine sw_loopEnd ?_ | (with_reducible refine And.intro (by first | omega | (simp only [lens]; omega)) ?_) | fail
 refine sw_loopU (ι := Nat) (fun p => [(7, .int .i64 p)]) (fun p => []) (fun p => (1 ≤ p ∧ p ≤ t.length) ∧ ∀ j < p, 1 ≤ j → subS rs t j ≠ u) (fun p => t.length - p) 1 (by (refine covers_mk0 rfl rfl ?_ ?_ ?_ ?_ <;> simp (disch := (refine Om.mk ?_; omega)) only [go_sem] <;> (try omega))) ?_ (fun p hp => ?_)
 rotate_left
 simp only [go_sem]
 obtain ⟨hp, hj⟩ := hp
 by_cases hil : p < t.length
 ·have h5 := endS_ge hT hil
  have h6 : ((endS rs t p).toNat : Int) = endS rs t p := by omega
  repeat' first | ((exfalso; omega)) | refine sw_seq ?_ | refine sw_block ?_ | refine sw_inBlock ?_ | refine sw_skip ?_ | refine sw_go 0 kp153 fun K hK => ?_ | refine fun (K : KT) (hK : KOk S 0 _ _ _ K) => ?_ | ((first | refine runL_go ?_ | refine sw_ret (ret0 ?_) | refine sw_ret ?_); simp (disch := (refine Om.mk ?_; omega)) only [go_sem, Try.results153]) | (refine hK.nil ?_; clear hK K; simp only [go_sem]) | ((first | refine sw_cond rfl ?_ ?_) <;> intro h <;> try simp (disch := (refine Om.mk ?_; omega)) only [go_sem] at h) | refine sw_exit rfl ?_ | refine sw_loopEnd ?_ | refine hK.c0 rfl rfl rfl (l13End_fc rs t p hT hil) rfl rfl rfl ?_ | refine hK.c0 rfl rfl rfl (specSameTerm_fc _ _ (subS rs t p) u) rfl rfl rfl ?_ | (with_reducible refine And.intro (by first | omega | (simp only [lens]; omega)) ?_) | fail
  ·exact ⟨p, ⟨hp.1, hil⟩, h⟩
  ·exact ⟨p + 1, (by (refine covers_mk0 rfl rfl ?_ ?_ ?_ ?_ <;> simp (disch := (refine Om.mk ?_; omega)) only [go_sem] <;> (try omega))), ⟨by omega, upto_succ hj fun _ => h⟩, by omega⟩
 ·repeat' first | ((exfalso; omega)) | refine sw_seq ?_ | refine sw_block ?_ | refine sw_inBlock ?_ | refine sw_skip ?_ | refine sw_go 0 kp153 fun K hK => ?_ | refine fun (K : KT) (hK : KOk S 0 _ _ _ K) => ?_ | ((first | refine runL_go ?_ | refine sw_ret (ret0 ?_) | refine sw_ret ?_); simp (disch := (refine Om.mk ?_; omega)) only [go_sem, Try.results153]) | (refine hK.nil ?_; clear hK K; simp only [go_sem]) | ((first | refine sw_cond rfl ?_ ?_) <;> intro h <;> try simp (disch := (refine Om.mk ?_; omega)) only [go_sem] at h) | refine sw_exit rfl ?_ | refine sw_loopEnd ?_ | (with_reducible refine And.intro (by first | omega | (simp only [lens]; omega)) ?_) | fail
  exact hasSub_no fun j hj' => hj j (by omega)
 ·exact ⟨⟨by omega, by omega⟩, fun j h1 h2 => absurd h1 (by omega)⟩
theorem l1CopyA_fc (tk : Tk) (xs : List Int) (hl : xs.length ≤ 17592186044416) : FC S 96 [] [] [] [.sl tk (xs.map (.int .i64))] (.sl .any (xs.map (.int .i64))) [] [] := by
 refine FC.args (args' := [.sl .any (xs.map (.int .i64))]) ?_ (by simp only [go_sem])
 refine fc_body Try.func96 rfl (by kernel_rfl) (by simp [Try.f96]) fun B => ?_
 simp only [Try.ntmps96, enumD, lst0, Nat.reduceAdd]
 refine sw_bnd 0 rfl fun hb0 => ?_
 simp only [D.bnd, List.length_map] at hb0
 repeat' first | refine sw_seq ?_ | refine sw_skip ?_ | refine sw_go 0 kp96 fun K hK => ?_ | refine fun (K : KT) (hK : KOk S 0 _ _ _ K) => ?_ | ((first | refine runL_go ?_ | refine sw_ret (ret0 ?_) | refine sw_ret ?_); simp (disch := (refine Om.mk ?_; omega)) only [go_sem, Try.results96]) | (refine hK.nil ?_; clear hK K; simp only [go_sem]) | refine sw_loopEnd ?_ | (with_reducible refine And.intro (by first | omega | (simp only [lens]; omega)) ?_) | ((with_reducible refine And.intro ?_ ?_); · first | (intro x hx; subst hx; rfl) | (intro x; refine And.intro ?_ ?_ <;> (intros; subst_vars; rfl))) | fail
def kp109 : List (Nat × List Nat) := [(0, [1, 2, 3, 6]), (1, [1, 2, 3, 6, 8]), (2, [1, 2, 3, 6, 8, 31]), (3, [6, 7]), (4, [1, 2, 3, 6, 8, 9]), (5, [1, 2, 6, 8, 9, 49]), (6, [6, 7]), (7, [6, 7])]
attribute [go_sem] kp109
theorem l17At_fc (x : SystemT) (hx : SystemOkP x) (r a : Nat) (hr : r < x.rules.length) (ha : a < (x.rules.getD r default).r.length) : FC S 109 [] [] [] [SystemD x, .int .i64 r, .int .i64 a] (.tup [DepPairD (atR x r a).1, .bool (atR x r a).2]) [] [] := by
 have hR := hx.2 r hr
 have h12 := hx.1.2
 have hT := hR.1.2.1
 have h5 := endS_ge hT ha
 have h6 : ((endS x.sig (x.rules.getD r default).r a).toNat : Int) = endS x.sig (x.rules.getD r default).r a := by omega
 have hl := hT.2.1
 have hl1 := hR.1.1.2.1
 have hsl : (subS x.sig (x.rules.getD r default).r a).length ≤ 60 := (subS_ok hT ha).2.1.2
 have h0 : ∀ j < x.rules.length, 1 ≤ (x.rules.getD j default).l.length := fun j hj => (hx.2 j hj).1.1.2.1.1
 rcases Classical.em (PairP x r a) with hPA | hPA
 ·rw [atR_yes hPA]
  have hh := hPA.1
  refine fc_body Try.func109 rfl (by kernel_rfl) (by simp [Try.f109]) fun B => ?_
  simp only [Try.ntmps109, enumD, lst0, Nat.reduceAdd]
  repeat' first | ((exfalso; omega)) | refine sw_seq ?_ | refine sw_skip ?_ | refine sw_go 0 kp109 fun K hK => ?_ | refine fun (K : KT) (hK : KOk S 0 _ _ _ K) => ?_ | refine sw_goD kp109 (by kernel_rfl) fun K hK => ?_ | ((first | refine runL_go ?_ | refine runQ_go ?_ | refine sw_ret (ret0 ?_) | refine sw_ret ?_); simp (disch := (refine Om.mk ?_; omega)) only [go_sem, Try.results109]) | (refine hK.nil ?_; clear hK K; simp only [go_sem]) | ((first | refine runG_fork rfl rfl rfl rfl rfl ?_ ?_ | refine runQG_fork rfl rfl rfl rfl rfl ?_ ?_ | refine sw_cond rfl ?_ ?_) <;> intro h <;> try simp (disch := (refine Om.mk ?_; omega)) only [go_sem] at h) | refine hK.skp rfl rfl ?_ | refine sw_loopEnd ?_ | refine hK.c0 rfl rfl rfl (l6Defined_fc x (by omega) h0) rfl rfl rfl ?_ | refine hK.c0 rfl rfl rfl (l1Has_fc _ _ _) rfl rfl rfl ?_ | refine hK.c0 rfl rfl rfl (l13End_fc x.sig (x.rules.getD r default).r a hT ha) rfl rfl rfl ?_ | refine hK.c0 rfl rfl rfl (l1CopyA_fc _ (subS x.sig (x.rules.getD r default).r a) (by omega)) rfl rfl rfl ?_ | refine hK.c0 rfl rfl rfl (l17Part_fc x.sig (x.rules.getD r default).l (subS x.sig (x.rules.getD r default).r a) hR.1.1) rfl rfl rfl ?_ | refine hK.c0 rfl rfl rfl (l1CopyA_fc _ (x.rules.getD r default).l (by omega)) rfl rfl rfl ?_ | (refine hK.fork rfl rfl rfl ?_ ?_ <;> intro h <;> try simp (disch := (refine Om.mk ?_; omega)) only [go_sem] at h) | (with_reducible refine And.intro (by first | omega | (simp only [lens]; omega)) ?_) | ((with_reducible refine And.intro ?_ ?_); · first | (intro x hx; subst hx; rfl) | (intro x; refine And.intro ?_ ?_ <;> (intros; subst_vars; rfl))) | fail
  all_goals first | exact absurd (defP_mem.2 hh.2) (by assumption) | exact absurd (by assumption) hPA.2 | exact ⟨rfl, rfl, rfl, rfl⟩ | skip
 ·rw [atR_no hPA]
  refine fc_body Try.func109 rfl (by kernel_rfl) (by simp [Try.f109]) fun B => ?_
  simp only [Try.ntmps109, enumD, lst0, Nat.reduceAdd]
  repeat' first | ((exfalso; omega)) | refine sw_seq ?_ | refine sw_skip ?_ | refine sw_go 0 kp109 fun K hK => ?_ | refine fun (K : KT) (hK : KOk S 0 _ _ _ K) => ?_ | refine sw_goD kp109 (by kernel_rfl) fun K hK => ?_ | ((first | refine runL_go ?_ | refine runQ_go ?_ | refine sw_ret (ret0 ?_) | refine sw_ret ?_); simp (disch := (refine Om.mk ?_; omega)) only [go_sem, Try.results109]) | (refine hK.nil ?_; clear hK K; simp only [go_sem]) | ((first | refine runG_fork rfl rfl rfl rfl rfl ?_ ?_ | refine runQG_fork rfl rfl rfl rfl rfl ?_ ?_ | refine sw_cond rfl ?_ ?_) <;> intro h <;> try simp (disch := (refine Om.mk ?_; omega)) only [go_sem] at h) | refine hK.skp rfl rfl ?_ | refine sw_loopEnd ?_ | refine hK.c0 rfl rfl rfl (l6Defined_fc x (by omega) h0) rfl rfl rfl ?_ | refine hK.c0 rfl rfl rfl (l1Has_fc _ _ _) rfl rfl rfl ?_ | refine hK.c0 rfl rfl rfl (l13End_fc x.sig (x.rules.getD r default).r a hT ha) rfl rfl rfl ?_ | refine hK.c0 rfl rfl rfl (l1CopyA_fc _ (subS x.sig (x.rules.getD r default).r a) (by omega)) rfl rfl rfl ?_ | refine hK.c0 rfl rfl rfl (l17Part_fc x.sig (x.rules.getD r default).l (subS x.sig (x.rules.getD r default).r a) hR.1.1) rfl rfl rfl ?_ | refine hK.c0 rfl rfl rfl (l1CopyA_fc _ (x.rules.getD r default).l (by omega)) rfl rfl rfl ?_ | (refine hK.fork rfl rfl rfl ?_ ?_ <;> intro h <;> try simp (disch := (refine Om.mk ?_; omega)) only [go_sem] at h) | (with_reducible refine And.intro (by first | omega | (simp only [lens]; omega)) ?_) | ((with_reducible refine And.intro ?_ ?_); · first | (intro x hx; subst hx; rfl) | (intro x; refine And.intro ?_ ?_ <;> (intros; subst_vars; rfl))) | fail
  all_goals first | exact absurd (show PairP x r a from ⟨⟨(by assumption), defP_mem.1 (by assumption)⟩, (by assumption)⟩) hPA | skip
def kp65 : List (Nat × List Nat) := [(0, [1]), (1, [1, 4]), (2, [1, 4, 12]), (3, [2, 3]), (4, [1, 4, 5]), (5, [1, 4, 5, 18]), (7, [1, 4, 5, 6]), (8, [1, 4, 5, 6, 29]), (10, [1, 4, 5, 6, 7, 8]), (11, [1, 4, 5, 6, 7, 39]), (12, [1, 4, 5, 6]), (9, [1, 4, 5, 6]), (6, [1, 4, 5]), (13, [4, 46]), (14, [2, 3]), (15, [2, 3])]
attribute [go_sem] kp65
theorem specPairsOf_fc (x : SystemT) : FC S 65 [] [] [] [SystemD x] (.tup [.sl .any ((pairsR x).1.map DepPairD), .bool (pairsR x).2]) [] [] := by
 rcases Classical.em (SystemOkP x) with hx | hx
 ·have h12 := hx.1.2
  have hA : (prA x x.rules.length).length ≤ 64 → pairsR x = (allP x, true) := fun h => pairsR_yes ⟨hx, h⟩
  have hB : ¬ (prA x x.rules.length).length ≤ 64 → pairsR x = ([], false) := fun h => pairsR_no fun e => h e.2
  refine fc_body Try.func65 rfl (by kernel_rfl) (by simp [Try.f65]) fun B => ?_
  simp only [Try.ntmps65, enumD, lst0, Nat.reduceAdd]
  repeat' first | ((exact absurd hx (by assumption))) | refine sw_seq ?_ | refine sw_block ?_ | refine sw_inBlock ?_ | refine sw_skip ?_ | refine sw_go 0 kp65 fun K hK => ?_ | refine fun (K : KT) (hK : KOk S 0 _ _ _ K) => ?_ | ((first | refine runL_go ?_ | refine sw_ret (ret0 ?_) | refine sw_ret ?_); simp (disch := (refine Om.mk ?_; omega)) only [go_sem, Try.results65]) | (refine hK.nil ?_; clear hK K; simp only [go_sem]) | ((first | refine sw_cond rfl ?_ ?_) <;> intro h <;> try simp (disch := (refine Om.mk ?_; omega)) only [go_sem] at h) | refine sw_exit rfl ?_ | refine sw_loopEnd ?_ | refine hK.c0 rfl rfl rfl (specSystemOk_fc _) rfl rfl rfl ?_ | (with_reducible refine And.intro (by first | omega | (simp only [lens]; omega)) ?_) | ((with_reducible refine And.intro ?_ ?_); · first | (intro x hx; subst hx; rfl) | (intro x; refine And.intro ?_ ?_ <;> (intros; subst_vars; rfl))) | fail
  refine sw_tok 4 44000 150 4 rfl (.inr rfl) rfl ?_
  simp only [go_sem]
  refine sw_loopT (ι := Nat) (fun r => [(5, .int .i64 r), (4, .sl (.own 44000 150 4) ((prA x r).map DepPairD))]) (fun _ => []) (fun _ => [44000]) (fun r => r ≤ x.rules.length) (fun r => x.rules.length - r) 0 (by (refine covers_mk0 rfl rfl ?_ ?_ ?_ ?_ <;> simp (disch := (refine Om.mk ?_; omega)) only [go_sem] <;> (try omega)); all_goals exact ⟨rfl, rfl⟩) (by omega) (fun r hr => ?_)
  simp only [go_sem]
  have hl1 := prA_len hx r hr
  by_cases hrl : r < x.rules.length
  ·have hT := (hx.2 r hrl).1.2.1
   have hTl := hT.2.1
   repeat' first | ((exfalso; omega)) | refine sw_seq ?_ | refine sw_block ?_ | refine sw_inBlock ?_ | refine sw_skip ?_ | refine sw_go 0 kp65 fun K hK => ?_ | refine fun (K : KT) (hK : KOk S 0 _ _ _ K) => ?_ | ((first | refine runL_go ?_ | refine sw_ret (ret0 ?_) | refine sw_ret ?_); simp (disch := (refine Om.mk ?_; omega)) only [go_sem, Try.results65]) | (refine hK.nil ?_; clear hK K; simp only [go_sem]) | ((first | refine sw_cond rfl ?_ ?_) <;> intro h <;> try simp (disch := (refine Om.mk ?_; omega)) only [go_sem] at h) | refine sw_exit rfl ?_ | refine sw_loopEnd ?_ | (with_reducible refine And.intro (by first | omega | (simp only [lens]; omega)) ?_) | ((with_reducible refine And.intro ?_ ?_); · first | (intro x hx; subst hx; rfl) | (intro x; refine And.intro ?_ ?_ <;> (intros; subst_vars; rfl))) | fail
   refine sw_loopT (ι := Nat) (fun a => [(6, .int .i64 a), (4, .sl (.own 44000 150 4) ((prA x r ++ prR x r a).map DepPairD))]) (fun _ => []) (fun _ => [44000]) (fun a => a ≤ (x.rules.getD r default).r.length) (fun a => (x.rules.getD r default).r.length - a) 0 (by (refine covers_mk0 rfl rfl ?_ ?_ ?_ ?_ <;> simp (disch := (refine Om.mk ?_; omega)) only [go_sem] <;> (try omega)); all_goals first | rfl | (rw [show prR x r 0 = [] from rfl, List.append_nil]; exact ⟨rfl, rfl⟩) | (rw [show prR x r 0 = [] from rfl, List.append_nil])) (by omega) (fun a ha => ?_)
   simp only [go_sem]
   have hl2 := prR_len x r a
   have hl3 : (prA x r ++ prR x r a).length ≤ 60 * r + a := by rw [List.length_append]; omega
   by_cases hal : a < (x.rules.getD r default).r.length
   ·have hst := @prR_at x r a
    repeat' first | ((exfalso; omega)) | refine sw_seq ?_ | refine sw_block ?_ | refine sw_inBlock ?_ | refine sw_skip ?_ | refine sw_go 0 kp65 fun K hK => ?_ | refine fun (K : KT) (hK : KOk S 0 _ _ _ K) => ?_ | ((first | refine runL_go ?_ | refine sw_ret (ret0 ?_) | refine sw_ret ?_); simp (disch := (refine Om.mk ?_; omega)) only [go_sem, Try.results65]) | (refine hK.nil ?_; clear hK K; simp only [go_sem]) | ((first | refine sw_cond rfl ?_ ?_) <;> intro h <;> try simp (disch := (refine Om.mk ?_; omega)) only [go_sem] at h) | refine sw_exit rfl ?_ | refine sw_loopEnd ?_ | refine hK.c0 rfl rfl rfl (l17At_fc x hx r a hrl hal) rfl rfl rfl ?_ | (with_reducible refine And.intro (by first | omega | (simp only [lens]; omega)) ?_) | ((with_reducible refine And.intro ?_ ?_); · first | (intro x hx; subst hx; rfl) | (intro x; refine And.intro ?_ ?_ <;> (intros; subst_vars; rfl))) | fail
    ·exact ⟨a + 1, (by (refine covers_mk0 rfl rfl ?_ ?_ ?_ ?_ <;> simp (disch := (refine Om.mk ?_; omega)) only [go_sem] <;> (try omega)); rw [hst.1 h, ← List.append_assoc, List.map_append (l₁ := prA x r ++ prR x r a), List.map_append (l₁ := prA x r)]; exact ⟨rfl, by omega⟩), by omega, by omega⟩
    ·exact ⟨a + 1, (by (refine covers_mk0 rfl rfl ?_ ?_ ?_ ?_ <;> simp (disch := (refine Om.mk ?_; omega)) only [go_sem] <;> (try omega)); rw [hst.2 h]; exact ⟨rfl, by omega⟩), by omega, by omega⟩
   ·repeat' first | ((exfalso; omega)) | refine sw_seq ?_ | refine sw_block ?_ | refine sw_inBlock ?_ | refine sw_skip ?_ | refine sw_go 0 kp65 fun K hK => ?_ | refine fun (K : KT) (hK : KOk S 0 _ _ _ K) => ?_ | ((first | refine runL_go ?_ | refine sw_ret (ret0 ?_) | refine sw_ret ?_); simp (disch := (refine Om.mk ?_; omega)) only [go_sem, Try.results65]) | (refine hK.nil ?_; clear hK K; simp only [go_sem]) | ((first | refine sw_cond rfl ?_ ?_) <;> intro h <;> try simp (disch := (refine Om.mk ?_; omega)) only [go_sem] at h) | refine sw_exit rfl ?_ | refine sw_loopEnd ?_ | (with_reducible refine And.intro (by first | omega | (simp only [lens]; omega)) ?_) | ((with_reducible refine And.intro ?_ ?_); · first | (intro x hx; subst hx; rfl) | (intro x; refine And.intro ?_ ?_ <;> (intros; subst_vars; rfl))) | fail
    exact ⟨r + 1, (by (refine covers_mk0 rfl rfl ?_ ?_ ?_ ?_ <;> simp (disch := (refine Om.mk ?_; omega)) only [go_sem] <;> (try omega)); rw [show prA x (r + 1) = prA x r ++ prR x r (x.rules.getD r default).r.length from rfl, show a = (x.rules.getD r default).r.length by omega]; exact ⟨rfl, by omega⟩), by omega, by omega⟩
  ·obtain rfl : r = x.rules.length := by omega
   repeat' first | ((exfalso; omega)) | refine sw_seq ?_ | refine sw_block ?_ | refine sw_inBlock ?_ | refine sw_skip ?_ | refine sw_go 0 kp65 fun K hK => ?_ | refine fun (K : KT) (hK : KOk S 0 _ _ _ K) => ?_ | ((first | refine runL_go ?_ | refine sw_ret (ret0 ?_) | refine sw_ret ?_); simp (disch := (refine Om.mk ?_; omega)) only [go_sem, Try.results65]) | (refine hK.nil ?_; clear hK K; simp only [go_sem]) | ((first | refine sw_cond rfl ?_ ?_) <;> intro h <;> try simp (disch := (refine Om.mk ?_; omega)) only [go_sem] at h) | refine sw_exit rfl ?_ | refine sw_loopEnd ?_ | (with_reducible refine And.intro (by first | omega | (simp only [lens]; omega)) ?_) | ((with_reducible refine And.intro ?_ ?_); · first | (intro x hx; subst hx; rfl) | (intro x; refine And.intro ?_ ?_ <;> (intros; subst_vars; rfl))) | fail
   ·rw [hB (by omega)]; exact ⟨rfl, rfl⟩
   ·rw [hA (by omega)]; exact ⟨rfl, rfl⟩
 ·rw [pairsR_no fun h => hx h.1]
  refine fc_body Try.func65 rfl (by kernel_rfl) (by simp [Try.f65]) fun B => ?_
  simp only [Try.ntmps65, enumD, lst0, Nat.reduceAdd]
  repeat' first | ((exact absurd (by assumption) hx)) | refine sw_seq ?_ | refine sw_block ?_ | refine sw_inBlock ?_ | refine sw_skip ?_ | refine sw_go 0 kp65 fun K hK => ?_ | refine fun (K : KT) (hK : KOk S 0 _ _ _ K) => ?_ | ((first | refine runL_go ?_ | refine sw_ret (ret0 ?_) | refine sw_ret ?_); simp (disch := (refine Om.mk ?_; omega)) only [go_sem, Try.results65]) | (refine hK.nil ?_; clear hK K; simp only [go_sem]) | ((first | refine sw_cond rfl ?_ ?_) <;> intro h <;> try simp (disch := (refine Om.mk ?_; omega)) only [go_sem] at h) | refine sw_exit rfl ?_ | refine sw_loopEnd ?_ | refine hK.c0 rfl rfl rfl (specSystemOk_fc _) rfl rfl rfl ?_ | (with_reducible refine And.intro (by first | omega | (simp only [lens]; omega)) ?_) | ((with_reducible refine And.intro ?_ ?_); · first | (intro x hx; subst hx; rfl) | (intro x; refine And.intro ?_ ?_ <;> (intros; subst_vars; rfl))) | fail
def lastS (set : List Int) (p : Nat) : Int := if p = 0 then -1 else set.getD (p - 1) default
theorem lastS_succ (set : List Int) (p : Nat) : lastS set (p + 1) = set.getD p default := rfl
def kp66 : List (Nat × List Nat) := [(0, [0, 1]), (1, [0, 1, 5]), (2, [0, 1, 5, 6]), (3, [0, 1, 5, 6, 10]), (5, [0, 1, 6, 22]), (6, [4]), (7, [0, 1, 5, 6]), (4, [0, 1, 5, 6]), (8, [4])]
attribute [go_sem] kp66
theorem l18Set_fc (set : List Int) (n : Nat) (hn : n ≤ 1000) : FC S 66 [] [] [] [.sl .any (set.map (.int .i64)), .int .i64 n] (.bool (tst (SetPP set n))) [] [] := by
 refine fc_body Try.func66 rfl (by kernel_rfl) (by simp [Try.f66]) fun B => ?_
 simp only [Try.ntmps66, enumD, lst0, Nat.reduceAdd]
 refine sw_bnd 0 rfl fun hb0 => ?_
 simp only [D.bnd, List.length_map] at hb0
 repeat' first | refine sw_seq ?_ | refine sw_block ?_ | refine sw_inBlock ?_ | refine sw_skip ?_ | refine sw_go 0 kp66 fun K hK => ?_ | refine fun (K : KT) (hK : KOk S 0 _ _ _ K) => ?_ | ((first | refine runL_go ?_ | refine sw_ret (ret0 ?_) | refine sw_ret ?_); simp (disch := (refine Om.mk ?_; omega)) only [go_sem, Try.results66]) | (refine hK.nil ?_; clear hK K; simp only [go_sem]) | ((first | refine sw_cond rfl ?_ ?_) <;> intro h <;> try simp (disch := (refine Om.mk ?_; omega)) only [go_sem] at h) | refine sw_exit rfl ?_ | refine sw_loopEnd ?_ | (with_reducible refine And.intro (by first | omega | (simp only [lens]; omega)) ?_) | fail
 refine sw_loopU (ι := Nat) (fun p => [(6, .int .i64 p), (5, .int .i64 (lastS set p))]) (fun p => []) (fun p => p ≤ set.length ∧ ∀ j < p, (0 ≤ set.getD j default ∧ set.getD j default < n) ∧ (0 < j → set.getD (j - 1) default < set.getD j default)) (fun p => set.length - p) 0 (by (refine covers_mk0 rfl rfl ?_ ?_ ?_ ?_ <;> simp (disch := (refine Om.mk ?_; omega)) only [go_sem] <;> (try omega)); exact ⟨rfl, rfl⟩) ?_ (fun p hp => ?_)
 rotate_left
 simp only [go_sem]
 obtain ⟨hp, hj⟩ := hp
 have hL : -1 ≤ lastS set p ∧ lastS set p < 1000 ∧ (p = 0 → lastS set p = -1) ∧ (0 < p → lastS set p = set.getD (p - 1) default ∧ 0 ≤ lastS set p) := by
  unfold lastS
  split
  ·omega
  ·have := (hj (p - 1) (by omega)).1; omega
 have hC : (lastS set p + 1 ≤ set.getD p default ∧ set.getD p default ≤ (n : Int) - 1) ↔ ((0 ≤ set.getD p default ∧ set.getD p default < n) ∧ (0 < p → set.getD (p - 1) default < set.getD p default)) := by
  rcases Nat.eq_zero_or_pos p with h0 | h0
  ·have := hL.2.2.1 h0; omega
  ·have := hL.2.2.2 h0; omega
 repeat' first | refine sw_seq ?_ | refine sw_block ?_ | refine sw_inBlock ?_ | refine sw_skip ?_ | refine sw_go 0 kp66 fun K hK => ?_ | refine fun (K : KT) (hK : KOk S 0 _ _ _ K) => ?_ | ((first | refine runL_go ?_ | refine sw_ret (ret0 ?_) | refine sw_ret ?_); simp (disch := (refine Om.mk ?_; omega)) only [go_sem, Try.results66]) | (refine hK.nil ?_; clear hK K; simp only [go_sem]) | ((first | refine sw_cond rfl ?_ ?_) <;> intro h <;> try simp (disch := (refine Om.mk ?_; omega)) only [go_sem] at h) | refine sw_exit rfl ?_ | refine sw_loopEnd ?_ | refine hK.c0 rfl rfl rfl (l1In_fc _ _ _) rfl rfl rfl ?_ | (with_reducible refine And.intro (by first | omega | (simp only [lens]; omega)) ?_) | fail
 ·intro hS
  exact h (hC.2 (hS p (by omega)))
 ·exact ⟨p + 1, (by (refine covers_mk0 rfl rfl ?_ ?_ ?_ ?_ <;> simp (disch := (refine Om.mk ?_; omega)) only [go_sem] <;> (try omega)); exact ⟨(lastS_succ set p).symm, by omega⟩), ⟨by omega, upto_succ hj (hC.1 h)⟩, by omega⟩
 ·exact fun j hj' => hj j (by omega)
 ·exact fun j hj' => absurd hj' (by omega)
end Go.Proofs.Ytlcdahaihlflaaa
end
section
namespace Go.Proofs.Ytlcdahaihlflaaa
open Go Go.Lg
set_option linter.unusedSimpArgs false
set_option linter.unusedVariables false
set_option maxHeartbeats 4000000
attribute [local irreducible] SW runL runQ runG runQG FC Ret1 toF redoL
def kp184 : List (Nat × List Nat) := [(0, [1, 2]), (1, [3])]
attribute [go_sem] kp184
theorem isDefined1_fc (f : Int) (r : RuleT) (h : 1 ≤ r.l.length) : FC S 184 [(3, [.int .i64 f])] [] [] ([RuleD r] ++ [.box 3 0]) (.bool (tst (r.l.getD 0 default = f))) [] [] := by
 refine fc_body Try.func184 rfl (by kernel_rfl) (by simp [Try.f184]) fun B => ?_
 simp only [Try.ntmps184, enumD, lst0, Nat.reduceAdd]
 repeat' first | refine sw_seq ?_ | refine sw_skip ?_ | refine sw_go 100 kp184 fun K hK => ?_ | refine fun (K : KT) (hK : KOk S 100 _ _ _ K) => ?_ | refine sw_goD kp184 (by kernel_rfl) fun K hK => ?_ | ((first | refine runL_go ?_ | refine runQ_go ?_ | refine sw_ret (ret0 ?_) | refine sw_ret ?_); simp (disch := (refine Om.mk ?_; omega)) only [go_sem, Try.results184]) | (refine hK.nil ?_; clear hK K; simp only [go_sem]) | refine sw_loopEnd ?_ | (with_reducible refine And.intro (by first | omega | (simp only [lens]; omega)) ?_) | fail
def kp177 : List (Nat × List Nat) := [(0, [2, 3]), (1, [4])]
attribute [go_sem] kp177
theorem isDefined_fc (x : SystemT) (f : Int) (h : ∀ r ∈ x.rules, 1 ≤ r.l.length) : FC S 177 [] [] [] [SystemD x, .int .i64 f] (.bool (tst (DefP x f))) [] [] := by
 refine fc_body Try.func177 rfl (by kernel_rfl) (by simp [Try.f177]) fun B => ?_
 simp only [Try.ntmps177, enumD, lst0, Nat.reduceAdd]
 repeat' first | refine sw_seq ?_ | refine sw_skip ?_ | refine sw_go 0 kp177 fun K hK => ?_ | refine fun (K : KT) (hK : KOk S 0 _ _ _ K) => ?_ | ((first | refine runL_go ?_ | refine sw_ret (ret0 ?_) | refine sw_ret ?_); simp (disch := (refine Om.mk ?_; omega)) only [go_sem, Try.results177]) | (refine hK.nil ?_; clear hK K; simp only [go_sem]) | refine sw_loopEnd ?_ | refine hK.call rfl rfl rfl (containsFuncRule_fc _ x.rules (fun r => r.l.getD 0 default = f) _ _ [(3, [.int .i64 f])] (by simp [Lg.look]) (fun r hr => isDefined1_fc f r (h r hr))) ⟨(by simp [LS.getBox, Lg.look]), rfl, rfl, (by simp only [dstOk, Nat.reduceLT])⟩ ?_ | (with_reducible refine And.intro (by first | omega | (simp only [lens]; omega)) ?_) | fail
 exact Iff.rfl
def kp178 : List (Nat × List Nat) := [(0, [1, 2, 3, 4]), (1, [1, 3, 4, 9]), (2, [1, 3, 4, 9, 14]), (4, [1, 3, 4, 9, 22]), (5, [8]), (3, [1, 3, 4, 9]), (6, [8])]
attribute [go_sem] kp178
theorem hasSub_fc (rs t u : List Int) (hT : TermOkP rs t) : FC S 178 [] [] [] [.agg [.sl .any (rs.map (.int .i64))], .sl .any (t.map (.int .i64)), .int .i64 1, .sl .any (u.map (.int .i64))] (.bool (tst (HasSub rs t 1 u))) [] [] := by
 have hl := hT.2.1
 refine fc_body Try.func178 rfl (by kernel_rfl) (by simp [Try.f178]) fun B => ?_
 simp only [Try.ntmps178, enumD, lst0, Nat.reduceAdd]
 repeat' first | refine sw_seq ?_ | refine sw_block ?_ | refine sw_inBlock ?_ | refine sw_skip ?_ | refine sw_go 0 kp178 fun K hK => ?_ | refine fun (K : KT) (hK : KOk S 0 _ _ _ K) => ?_ | ((first | refine runL_go ?_ | refine sw_ret (ret0 ?_) | refine sw_ret ?_); simp (disch := (refine Om.mk ?_; omega)) only [go_sem, Try.results178]) | (refine hK.nil ?_; clear hK K; simp only [go_sem]) | ((first | refine sw_cond rfl ?_ ?_) <;> intro h <;> try simp (disch := (refine Om.mk ?_; omega)) only [go_sem] at h) | refine sw_exit rfl ?_ | refine sw_loopEnd ?_ | (with_reducible refine And.intro (by first | omega | (simp only [lens]; omega)) ?_) | fail
 refine sw_loopU (ι := Nat) (fun p => [(9, .int .i64 p)]) (fun p => []) (fun p => (1 ≤ p ∧ p ≤ t.length) ∧ ∀ j < p, 1 ≤ j → subS rs t j ≠ u) (fun p => t.length - p) 1 (by (refine covers_mk0 rfl rfl ?_ ?_ ?_ ?_ <;> simp (disch := (refine Om.mk ?_; omega)) only [go_sem] <;> (try omega))) ?_ (fun p hp => ?_)
 rotate_left
 simp only [go_sem]
 obtain ⟨hp, hj⟩ := hp
 by_cases hil : p < t.length
 ·repeat' first | ((exfalso; omega)) | refine sw_seq ?_ | refine sw_block ?_ | refine sw_inBlock ?_ | refine sw_skip ?_ | refine sw_go 0 kp178 fun K hK => ?_ | refine fun (K : KT) (hK : KOk S 0 _ _ _ K) => ?_ | ((first | refine runL_go ?_ | refine sw_ret (ret0 ?_) | refine sw_ret ?_); simp (disch := (refine Om.mk ?_; omega)) only [go_sem, Try.results178]) | (refine hK.nil ?_; clear hK K; simp only [go_sem]) | ((first | refine sw_cond rfl ?_ ?_) <;> intro h <;> try simp (disch := (refine Om.mk ?_; omega)) only [go_sem] at h) | refine sw_exit rfl ?_ | refine sw_loopEnd ?_ | refine hK.c0 rfl rfl rfl (subAt_fc .any .any rs t p hT hil) rfl rfl rfl ?_ | refine hK.c0 rfl rfl rfl (equalInt64_fc _ _ (subS rs t p) u) rfl rfl rfl ?_ | (with_reducible refine And.intro (by first | omega | (simp only [lens]; omega)) ?_) | fail
  ·exact ⟨p, ⟨hp.1, hil⟩, h⟩
  ·exact ⟨p + 1, (by (refine covers_mk0 rfl rfl ?_ ?_ ?_ ?_ <;> simp (disch := (refine Om.mk ?_; omega)) only [go_sem] <;> (try omega))), ⟨by omega, upto_succ hj fun _ => h⟩, by omega⟩
 ·repeat' first | ((exfalso; omega)) | refine sw_seq ?_ | refine sw_block ?_ | refine sw_inBlock ?_ | refine sw_skip ?_ | refine sw_go 0 kp178 fun K hK => ?_ | refine fun (K : KT) (hK : KOk S 0 _ _ _ K) => ?_ | ((first | refine runL_go ?_ | refine sw_ret (ret0 ?_) | refine sw_ret ?_); simp (disch := (refine Om.mk ?_; omega)) only [go_sem, Try.results178]) | (refine hK.nil ?_; clear hK K; simp only [go_sem]) | ((first | refine sw_cond rfl ?_ ?_) <;> intro h <;> try simp (disch := (refine Om.mk ?_; omega)) only [go_sem] at h) | refine sw_exit rfl ?_ | refine sw_loopEnd ?_ | (with_reducible refine And.intro (by first | omega | (simp only [lens]; omega)) ?_) | fail
  exact hasSub_no fun j hj' => hj j (by omega)
 ·exact ⟨⟨by omega, by omega⟩, fun j h1 h2 => absurd h1 (by omega)⟩
def kp158 : List (Nat × List Nat) := [(0, [1, 2, 3, 6]), (1, [1, 2, 3, 6, 8]), (2, [1, 2, 3, 6, 8, 30]), (3, [6, 7]), (4, [1, 2, 3, 6, 8, 9]), (5, [1, 2, 6, 8, 9, 43]), (6, [6, 7]), (7, [6, 7])]
attribute [go_sem] kp158
theorem pairAt_fc (x : SystemT) (hx : SystemOkP x) (r a : Nat) (hr : r < x.rules.length) (ha : a < (x.rules.getD r default).r.length) : FC S 158 [] [] [] [SystemD x, .int .i64 r, .int .i64 a] (.tup [DepPairD (atR x r a).1, .bool (atR x r a).2]) [] [] := by
 have hR := hx.2 r hr
 have h12 := hx.1.2
 have hT := hR.1.2.1
 have hl := hT.2.1
 have hl1 := hR.1.1.2.1
 have hsl : 1 ≤ (subS x.sig (x.rules.getD r default).r a).length ∧ (subS x.sig (x.rules.getD r default).r a).length ≤ 60 := (subS_ok hT ha).2.1
 have hne : ∀ {xs : List Int}, 1 ≤ xs.length → xs ≠ [] := fun h e => by rw [e] at h; exact absurd h (by simp)
 have h0 : ∀ r ∈ x.rules, 1 ≤ r.l.length := fun r hr => by
  obtain ⟨j, hj, rfl⟩ := List.getElem_of_mem hr
  have := (hx.2 j hj).1.1.2.1.1
  rwa [List.getD_eq_getElem?_getD, List.getElem?_eq_getElem hj] at this
 rcases Classical.em (PairP x r a) with hPA | hPA
 ·rw [atR_yes hPA]
  have hh := hPA.1
  refine fc_body Try.func158 rfl (by kernel_rfl) (by simp [Try.f158]) fun B => ?_
  simp only [Try.ntmps158, enumD, lst0, Nat.reduceAdd]
  repeat' first | ((exfalso; omega)) | refine sw_seq ?_ | refine sw_skip ?_ | refine sw_go 0 kp158 fun K hK => ?_ | refine fun (K : KT) (hK : KOk S 0 _ _ _ K) => ?_ | refine sw_goD kp158 (by kernel_rfl) fun K hK => ?_ | ((first | refine runL_go ?_ | refine runQ_go ?_ | refine sw_ret (ret0 ?_) | refine sw_ret ?_); simp (disch := (refine Om.mk ?_; omega)) only [go_sem, Try.results158]) | (refine hK.nil ?_; clear hK K; simp only [go_sem]) | ((first | refine runG_fork rfl rfl rfl rfl rfl ?_ ?_ | refine runQG_fork rfl rfl rfl rfl rfl ?_ ?_ | refine sw_cond rfl ?_ ?_) <;> intro h <;> try simp (disch := (refine Om.mk ?_; omega)) only [go_sem] at h) | refine hK.skp rfl rfl ?_ | refine sw_loopEnd ?_ | refine hK.c0 rfl rfl rfl (isDefined_fc x _ h0) rfl rfl rfl ?_ | refine hK.c0 rfl rfl rfl (subAt_fc .any .any x.sig (x.rules.getD r default).r a hT ha) rfl rfl rfl ?_ | refine hK.c0 rfl rfl rfl (hasSub_fc x.sig (x.rules.getD r default).l (subS x.sig (x.rules.getD r default).r a) hR.1.1) rfl rfl rfl ?_ | refine hK.c0 rfl rfl rfl (cloneL_fc [1] (by simp) _ (subS x.sig (x.rules.getD r default).r a) (hne hsl.1) (by omega)) rfl rfl rfl ?_ | refine hK.c0 rfl rfl rfl (cloneL_fc [2] (by simp) _ (x.rules.getD r default).l (hne hl1.1) (by omega)) rfl rfl rfl ?_ | (refine hK.fork rfl rfl rfl ?_ ?_ <;> intro h <;> try simp (disch := (refine Om.mk ?_; omega)) only [go_sem] at h) | (with_reducible refine And.intro (by first | omega | (simp only [lens]; omega)) ?_) | ((with_reducible refine And.intro ?_ ?_); · first | (intro x hx; subst hx; rfl) | (intro x; refine And.intro ?_ ?_ <;> (intros; subst_vars; rfl))) | fail
  all_goals first | exact absurd hh.2 (by assumption) | exact absurd (by assumption) hPA.2 | exact ⟨rfl, rfl, rfl, rfl⟩ | skip
 ·rw [atR_no hPA]
  refine fc_body Try.func158 rfl (by kernel_rfl) (by simp [Try.f158]) fun B => ?_
  simp only [Try.ntmps158, enumD, lst0, Nat.reduceAdd]
  repeat' first | ((exfalso; omega)) | refine sw_seq ?_ | refine sw_skip ?_ | refine sw_go 0 kp158 fun K hK => ?_ | refine fun (K : KT) (hK : KOk S 0 _ _ _ K) => ?_ | refine sw_goD kp158 (by kernel_rfl) fun K hK => ?_ | ((first | refine runL_go ?_ | refine runQ_go ?_ | refine sw_ret (ret0 ?_) | refine sw_ret ?_); simp (disch := (refine Om.mk ?_; omega)) only [go_sem, Try.results158]) | (refine hK.nil ?_; clear hK K; simp only [go_sem]) | ((first | refine runG_fork rfl rfl rfl rfl rfl ?_ ?_ | refine runQG_fork rfl rfl rfl rfl rfl ?_ ?_ | refine sw_cond rfl ?_ ?_) <;> intro h <;> try simp (disch := (refine Om.mk ?_; omega)) only [go_sem] at h) | refine hK.skp rfl rfl ?_ | refine sw_loopEnd ?_ | refine hK.c0 rfl rfl rfl (isDefined_fc x _ h0) rfl rfl rfl ?_ | refine hK.c0 rfl rfl rfl (subAt_fc .any .any x.sig (x.rules.getD r default).r a hT ha) rfl rfl rfl ?_ | refine hK.c0 rfl rfl rfl (hasSub_fc x.sig (x.rules.getD r default).l (subS x.sig (x.rules.getD r default).r a) hR.1.1) rfl rfl rfl ?_ | refine hK.c0 rfl rfl rfl (cloneL_fc [1] (by simp) _ (subS x.sig (x.rules.getD r default).r a) (hne hsl.1) (by omega)) rfl rfl rfl ?_ | refine hK.c0 rfl rfl rfl (cloneL_fc [2] (by simp) _ (x.rules.getD r default).l (hne hl1.1) (by omega)) rfl rfl rfl ?_ | (refine hK.fork rfl rfl rfl ?_ ?_ <;> intro h <;> try simp (disch := (refine Om.mk ?_; omega)) only [go_sem] at h) | (with_reducible refine And.intro (by first | omega | (simp only [lens]; omega)) ?_) | ((with_reducible refine And.intro ?_ ?_); · first | (intro x hx; subst hx; rfl) | (intro x; refine And.intro ?_ ?_ <;> (intros; subst_vars; rfl))) | fail
  all_goals first | exact absurd (show PairP x r a from ⟨⟨(by assumption), (by assumption)⟩, (by assumption)⟩) hPA | skip
end Go.Proofs.Ytlcdahaihlflaaa
end
section
namespace Go.Proofs.Ytlcdahaihlflaaa
open Go Go.Lg
set_option linter.unusedSimpArgs false
set_option linter.unusedVariables false
set_option maxHeartbeats 4000000
attribute [local irreducible] SW runL runQ runG runQG FC Ret1
def phi (n : Int) : Int := if n < -24 then n + 24 else n
def phiL (t : List Int) : List Int := t.map phi
theorem phiL_len (t : List Int) : (phiL t).length = t.length := List.length_map _
theorem phiL_get (t : List Int) (i : Nat) (h : i < t.length) : (phiL t).getD i default = phi (t.getD i default) := by
 simp [phiL, List.getD_eq_getElem?_getD, h]
theorem phi_neg (n : Int) (h : -48 ≤ n) : phi n < 0 ↔ n < 0 := by unfold phi; split <;> omega
theorem phi_pos {n : Int} (h : 0 ≤ n) : phi n = n := by unfold phi; rw [if_neg (by omega)]
theorem phi_low {n : Int} (h : -48 ≤ n) : -24 ≤ phi n := by unfold phi; split <;> omega
def XT (rs t : List Int) : Prop := TermOkP rs (phiL t) ∧ ∀ x ∈ t, -48 ≤ x
theorem XT.len {rs t : List Int} (h : XT rs t) : 1 ≤ t.length ∧ t.length ≤ 60 := by have := h.1.2.1; rwa [phiL_len] at this
theorem XT.get {rs t : List Int} (h : XT rs t) {a : Nat} (ha : a < t.length) : -48 ≤ t.getD a default ∧ t.getD a default < rs.length := by
 have h1 := h.2 _ (getD_mem t a ha)
 have h2 := (h.1.low (a := a) (by rw [phiL_len]; exact ha)).1
 rw [phiL_get t a ha] at h2
 refine ⟨h1, ?_⟩
 have := h2.2
 unfold phi at this
 split at this <;> omega
def subX (rs t : List Int) (a : Nat) : List Int := (t.take (endS rs (phiL t) a).toNat).drop a
theorem subX_phi (rs t : List Int) (a : Nat) : phiL (subX rs t a) = subS rs (phiL t) a := by simp [phiL, subX, subS, List.map_drop, List.map_take]
theorem subX_ok {rs t : List Int} (h : XT rs t) {a : Nat} (ha : a < t.length) : XT rs (subX rs t a) := by
 refine ⟨?_, fun x hx => h.2 x (List.mem_of_mem_take (List.mem_of_mem_drop hx))⟩
 rw [subX_phi]
 exact subS_ok h.1 (by rw [phiL_len]; exact ha)
theorem arityAtX_fc (tk : Tk) (rs : List Int) (n : Int) (hn : -48 ≤ n ∧ n < rs.length) : FC S 164 [] [] [] [.agg [.sl tk (rs.map (.int .i64))], .int .i64 n] (.int .i64 (arS rs (phi n))) [] [] := by
 refine fc_body Try.func164 rfl (by kernel_rfl) (by simp [Try.f164]) fun B => ?_
 simp only [Try.ntmps164, enumD, lst0, Nat.reduceAdd]
 refine sw_bnd_agg 0 0 rfl rfl fun hb0_0 => ?_
 simp only [D.bnd, List.length_map] at hb0_0
 repeat' first | refine sw_seq ?_ | refine sw_skip ?_ | refine sw_go 0 kp164 fun K hK => ?_ | refine fun (K : KT) (hK : KOk S 0 _ _ _ K) => ?_ | ((first | refine runL_go ?_ | refine sw_ret (ret0 ?_) | refine sw_ret ?_); simp (disch := (refine Om.mk ?_; omega)) only [go_sem, Try.results164]) | (refine hK.nil ?_; clear hK K; simp only [go_sem]) | ((first | refine sw_cond rfl ?_ ?_) <;> intro h <;> try simp (disch := (refine Om.mk ?_; omega)) only [go_sem] at h) | refine sw_loopEnd ?_ | (with_reducible refine And.intro (by first | omega | (simp only [lens]; omega)) ?_) | fail
 ·exact (arS_var (by unfold phi; split <;> omega)).symm
 ·rw [phi_pos (by omega), arS_sym (by omega)]
theorem nextX_fc (id : Nat) (rs t : List Int) (a : Nat) (hs : SigOkP rs) (ht : ∀ x ∈ t, -48 ≤ x) : FC S 182 [] [(id, [.sl .any (rs.map (.int .i64)), .sl .any (t.map (.int .i64)), .int .i64 a])] [] [.box id 0] (.int .i64 (nxS rs (phiL t) a)) [(id, [.sl .any (rs.map (.int .i64)), .sl .any (t.map (.int .i64)), .int .i64 ((if nxS rs (phiL t) a < 0 then a else a + 1 : Nat) : Int)])] [] := by
 have hx : a < t.length → -48 ≤ t.getD a default := fun h => ht _ (getD_mem t a h)
 have hp := phiL_get t a
 have hlen := phiL_len t
 have hneg := phi_neg (t.getD a default)
 have hpos := @phi_pos (t.getD a default)
 refine fc_body Try.func182 rfl (by kernel_rfl) (by simp [Try.f182]) fun B => ?_
 simp only [Try.ntmps182, enumD, lst0, Nat.reduceAdd]
 refine sw_bnd_box id 1 (if_pos rfl) rfl fun hbid_1 => ?_
 simp only [D.bnd, List.length_map] at hbid_1
 repeat' first | refine sw_seq ?_ | refine sw_skip ?_ | refine sw_go 0 kp182 fun K hK => ?_ | refine fun (K : KT) (hK : KOk S 0 _ _ _ K) => ?_ | refine sw_goD kp182 (by kernel_rfl) fun K hK => ?_ | ((first | refine runL_go ?_ | refine runQ_go ?_ | refine sw_ret (ret0 ?_) | refine sw_ret ?_); simp (disch := (refine Om.mk ?_; omega)) only [go_sem, Try.results182]) | (refine hK.nil ?_; clear hK K; simp only [go_sem]) | ((first | refine runG_fork rfl rfl rfl rfl rfl ?_ ?_ | refine runQG_fork rfl rfl rfl rfl rfl ?_ ?_ | refine sw_cond rfl ?_ ?_) <;> intro h <;> try simp (disch := (refine Om.mk ?_; omega)) only [go_sem] at h) | refine hK.skp rfl rfl ?_ | refine sw_loopEnd ?_ | refine hK.c0 rfl rfl rfl (arityAtX_fc _ _ _ ⟨by omega, by omega⟩) rfl rfl rfl ?_ | (refine hK.fork rfl rfl rfl ?_ ?_ <;> intro h <;> try simp (disch := (refine Om.mk ?_; omega)) only [go_sem] at h) | (with_reducible refine And.intro (by first | omega | (simp only [lens]; omega)) ?_) | fail
 ·have e : nxS rs (phiL t) a = -1 := if_neg (by omega)
  simp [e]
 ·have e : nxS rs (phiL t) a = -1 := by rw [nxS, if_pos (by omega), hp (by omega), hpos (by omega), arS_none (by omega) (by omega)]
  simp [e]
 ·have e : nxS rs (phiL t) a = arS rs (phi (t.getD a default)) := by rw [nxS, if_pos (by omega), hp (by omega)]
  have h0 : 0 ≤ arS rs (phi (t.getD a default)) := by
   by_cases hn : t.getD a default < 0
   ·rw [arS_var (by unfold phi; split <;> omega)]; omega
   ·rw [hpos (by omega), arS_sym (by omega)]; exact (hs.2 _ (by omega)).1
  rw [if_neg (by omega)]
  exact ⟨e.symm, by simp⟩
theorem skipX_fc (id : Nat) (rs t : List Int) (a : Nat) (hs : SigOkP rs) (ht : ∀ x ∈ t, -48 ≤ x) (hl : t.length ≤ 60) : FC S 171 [] [(id, [.sl .any (rs.map (.int .i64)), .sl .any (t.map (.int .i64)), .int .i64 a])] [] [.box id 0] (.bool (skipS rs ((phiL t).drop a) 1 a).2) [(id, [.sl .any (rs.map (.int .i64)), .sl .any (t.map (.int .i64)), .int .i64 (skipS rs ((phiL t).drop a) 1 a).1])] [] := by
 have hlen := phiL_len t
 refine fc_body Try.func171 rfl (by kernel_rfl) (by simp [Try.f171]) fun B => ?_
 simp only [Try.ntmps171, enumD, lst0, Nat.reduceAdd]
 refine sw_bnd_box id 1 (if_pos rfl) rfl fun hbid_1 => ?_
 simp only [D.bnd, List.length_map] at hbid_1
 repeat' first | refine sw_seq ?_ | refine sw_block ?_ | refine sw_inBlock ?_ | refine sw_skip ?_ | refine sw_go 0 kp171 fun K hK => ?_ | refine fun (K : KT) (hK : KOk S 0 _ _ _ K) => ?_ | ((first | refine runL_go ?_ | refine sw_ret (ret0 ?_) | refine sw_ret ?_); simp (disch := (refine Om.mk ?_; omega)) only [go_sem, Try.results171]) | (refine hK.nil ?_; clear hK K; simp only [go_sem]) | ((first | refine sw_cond rfl ?_ ?_) <;> intro h <;> try simp (disch := (refine Om.mk ?_; omega)) only [go_sem] at h) | refine sw_exit rfl ?_ | refine sw_loopEnd ?_ | (with_reducible refine And.intro (by first | omega | (simp only [lens]; omega)) ?_) | fail
 refine sw_loopU (ι := Nat × Int) (fun p => [(3, .int .i64 p.2)]) (fun p => [(id, [.sl .any (rs.map (.int .i64)), .sl .any (t.map (.int .i64)), .int .i64 p.1])]) (fun p => (a ≤ p.1 ∧ ((1 ≤ p.2 ∧ skipS rs ((phiL t).drop a) 1 a = skipS rs ((phiL t).drop p.1) p.2 p.1) ∨ (p.2 = 0 ∧ skipS rs ((phiL t).drop a) 1 a = (p.1, true)))) ∧ p.2 ≤ 1 + 3 * p.1) (fun p => t.length - p.1) (a, 1) (by (refine covers_mk0 rfl rfl ?_ ?_ ?_ ?_ <;> simp (disch := (refine Om.mk ?_; omega)) only [go_sem] <;> (try omega))) ?_ (fun p hp => ?_)
 rotate_left
 simp only [go_sem]
 obtain ⟨i, need⟩ := p
 obtain ⟨⟨h1, h2⟩, h4⟩ := hp
 dsimp only at h1 h2 h4
 have hr := arS_rng hs ((phiL t).getD i default)
 have hn : nxS rs (phiL t) i ≤ 3 := by unfold nxS; split <;> omega
 have hb : i < (phiL t).length → skipS rs ((phiL t).drop i) need i = _ := skip_step rs (phiL t) need i
 repeat' first | refine sw_seq ?_ | refine sw_block ?_ | refine sw_inBlock ?_ | refine sw_skip ?_ | refine sw_go 0 kp171 fun K hK => ?_ | refine fun (K : KT) (hK : KOk S 0 _ _ _ K) => ?_ | ((first | refine runL_go ?_ | refine sw_ret (ret0 ?_) | refine sw_ret ?_); simp (disch := (refine Om.mk ?_; omega)) only [go_sem, Try.results171]) | (refine hK.nil ?_; clear hK K; simp only [go_sem]) | ((first | refine sw_cond rfl ?_ ?_) <;> intro h <;> try simp (disch := (refine Om.mk ?_; omega)) only [go_sem] at h) | refine sw_exit rfl ?_ | refine sw_loopEnd ?_ | (refine hK.callB rfl rfl rfl (nextX_fc id rs t i hs ht) ⟨⟨by simp only [Nat.reduceLT], (by first | (simp; all_goals fail) | (simp [LS.getBox, Lg.look]; all_goals fail)), by (simp [Lg.look]; all_goals fail), by (simp; all_goals fail), by (simp; all_goals fail)⟩, ⟨by (simp [D.ids, D.idsL]; all_goals fail), by (simp [D.ids, D.idsL]; all_goals fail), by (simp [D.tks, D.tksL]; all_goals fail), by (simp [D.tks, D.tksL]; all_goals fail), by (simp; all_goals fail)⟩, rfl⟩ ?_; simp (disch := (refine Om.mk ?_; omega)) only [go_sem]) | (with_reducible refine And.intro (by first | omega | (simp only [lens]; omega)) ?_) | fail
 ·have e : i < t.length → nxS rs (phiL t) i = arS rs ((phiL t).getD i default) := fun h => if_pos (by omega)
  rcases h2 with ⟨h2, h3⟩ | ⟨h2, h3⟩
  ·rw [h3]
   by_cases hi : i < t.length
   ·rw [hb (by omega), if_pos (by rw [← e hi]; assumption), if_pos (by assumption)]; simp
   ·rw [skip_end rs (phiL t) need i (by omega), if_pos (by assumption)]; simp
  ·omega
 ·have hi : i < t.length := by
   by_cases hi : i < t.length
   ·exact hi
   ·have : nxS rs (phiL t) i = -1 := if_neg (by omega)
    omega
  have e : nxS rs (phiL t) i = arS rs ((phiL t).getD i default) := if_pos (by omega)
  refine ⟨(i + 1, need + nxS rs (phiL t) i - 1), (by (refine covers_mk0 rfl rfl ?_ ?_ ?_ ?_ <;> simp (disch := (refine Om.mk ?_; omega)) only [go_sem] <;> (try omega)); rw [if_neg (by omega)]), ⟨⟨by omega, ?_⟩, by omega⟩, by omega⟩
  rcases h2 with ⟨h2, h3⟩ | ⟨h2, h3⟩
  ·rw [h3, hb (by omega), if_neg (by omega), ← e]
   by_cases hz : need + nxS rs (phiL t) i - 1 = 0
   ·rw [if_pos hz]; exact .inr ⟨hz, rfl⟩
   ·rw [if_neg hz]; exact .inl ⟨by dsimp only; omega, rfl⟩
  ·omega
 ·rcases h2 with ⟨h2, h3⟩ | ⟨h2, h3⟩
  ·omega
  ·rw [h3]; simp
 ·exact ⟨⟨by omega, .inl ⟨by omega, rfl⟩⟩, by omega⟩
theorem endAtX_fc (tk tk' : Tk) (rs t : List Int) (a : Int) (hs : SigOkP rs) (ht : ∀ x ∈ t, -48 ≤ x) (hl : t.length ≤ 60) (ha : 0 ≤ a) : FC S 145 [] [] [] [.agg [.sl tk (rs.map (.int .i64))], .sl tk' (t.map (.int .i64)), .int .i64 a] (.int .i64 (endS rs (phiL t) a.toNat)) [] [] := by
 obtain ⟨a, rfl⟩ := Int.eq_ofNat_of_zero_le ha
 refine FC.args (args' := [.agg [.sl .any (rs.map (.int .i64))], .sl .any (t.map (.int .i64)), .int .i64 a]) ?_ (by simp only [go_sem])
 refine fc_body Try.func145 rfl (by kernel_rfl) (by simp [Try.f145]) fun B => ?_
 simp only [Try.ntmps145, enumD, lst0, Nat.reduceAdd]
 repeat' first | refine sw_seq ?_ | refine sw_skip ?_ | refine sw_go 0 kp145 fun K hK => ?_ | refine fun (K : KT) (hK : KOk S 0 _ _ _ K) => ?_ | ((first | refine runL_go ?_ | refine sw_ret (ret0 ?_) | refine sw_ret ?_); simp (disch := (refine Om.mk ?_; omega)) only [go_sem, Try.results145]) | (refine hK.nil ?_; clear hK K; simp only [go_sem]) | ((first | refine sw_cond rfl ?_ ?_) <;> intro h <;> try simp (disch := (refine Om.mk ?_; omega)) only [go_sem] at h) | refine sw_loopEnd ?_ | (refine hK.callB rfl rfl rfl (skipX_fc 7 rs t a hs ht hl) ⟨⟨by simp only [Nat.reduceLT], (by first | (simp; all_goals fail) | (simp [LS.getBox, Lg.look]; all_goals fail)), by (simp [Lg.look]; all_goals fail), by (simp; all_goals fail), by (simp; all_goals fail)⟩, ⟨by (simp [D.ids, D.idsL]; all_goals fail), by (simp [D.ids, D.idsL]; all_goals fail), by (simp [D.tks, D.tksL]; all_goals fail), by (simp [D.tks, D.tksL]; all_goals fail), by (simp; all_goals fail)⟩, rfl⟩ ?_; simp (disch := (refine Om.mk ?_; omega)) only [go_sem]) | (with_reducible refine And.intro (by first | omega | (simp only [lens]; omega)) ?_) | ((with_reducible refine And.intro ?_ ?_); · first | (intro x hx; subst hx; rfl) | (intro x; refine And.intro ?_ ?_ <;> (intros; subst_vars; rfl))) | fail
 all_goals first | (rw [endS, skip_scan, h]; rfl)
theorem subAtX_fc (tk tk' : Tk) (rs t : List Int) (a : Nat) (hT : XT rs t) (ha : a < t.length) : FC S 134 [] [] [] [.agg [.sl tk (rs.map (.int .i64))], .sl tk' (t.map (.int .i64)), .int .i64 a] (.sl .any ((subX rs t a).map (.int .i64))) [] [] := by
 have he := endS_ge hT.1 (a := a) (by rw [phiL_len]; exact ha)
 rw [phiL_len] at he
 have hl := hT.len.2
 refine fc_body Try.func134 rfl (by kernel_rfl) (by simp [Try.f134]) fun B => ?_
 simp only [Try.ntmps134, enumD, lst0, Nat.reduceAdd]
 refine sw_bnd 1 rfl fun hb1 => ?_
 simp only [D.bnd, List.length_map] at hb1
 repeat' first | refine sw_seq ?_ | refine sw_skip ?_ | refine sw_go 0 kp134 fun K hK => ?_ | refine fun (K : KT) (hK : KOk S 0 _ _ _ K) => ?_ | ((first | refine runL_go ?_ | refine sw_ret (ret0 ?_) | refine sw_ret ?_); simp (disch := (refine Om.mk ?_; omega)) only [go_sem, Try.results134]) | (refine hK.nil ?_; clear hK K; simp only [go_sem]) | refine sw_loopEnd ?_ | refine hK.c0 rfl rfl rfl (endAtX_fc _ _ rs t a hT.1.1 hT.2 hl (by omega)) rfl rfl rfl ?_ | (with_reducible refine And.intro (by first | omega | (simp only [lens]; omega)) ?_) | fail
 rfl
theorem argsAtX_fc (tk tk' : Tk) (rs t : List Int) (a : Nat) (hT : XT rs t) (ha : a < t.length) : FC S 133 [] [] [] [.agg [.sl tk (rs.map (.int .i64))], .sl tk' (t.map (.int .i64)), .int .i64 a] (.sl .any ((argsS rs (phiL t) a).map natD)) [] [] := by
 have hl := hT.len.2
 have ha' : a < (phiL t).length := by rw [phiL_len]; exact ha
 have hlo := hT.1.low ha'
 have hg := hT.get ha
 obtain ⟨n, hn⟩ : ∃ n : Nat, arS rs ((phiL t).getD a default) = n := ⟨(arS rs ((phiL t).getD a default)).toNat, by omega⟩
 have hlt : ∀ j < n, a < nthB rs (phiL t) (a + 1) j ∧ nthB rs (phiL t) (a + 1) j < (phiL t).length := fun j hj => nthB_lt hT.1 ha' (by omega)
 have hle : ∀ j ≤ n, a < nthB rs (phiL t) (a + 1) j ∧ nthB rs (phiL t) (a + 1) j ≤ (phiL t).length := fun j hj => nthB_le hT.1 ha' (by omega)
 unfold argsS
 have hn2 := hn
 rw [phiL_get t a ha] at hn2
 rw [hn, Int.toNat_natCast]
 have hlen := phiL_len t
 refine FC.args (args' := [.agg [.sl .any (rs.map (.int .i64))], .sl .any (t.map (.int .i64)), .int .i64 a]) ?_ (by simp only [go_sem])
 refine fc_body Try.func133 rfl (by kernel_rfl) (by simp [Try.f133]) fun B => ?_
 simp only [Try.ntmps133, enumD, lst0, Nat.reduceAdd]
 refine sw_bnd 1 rfl fun hb1 => ?_
 simp only [D.bnd, List.length_map] at hb1
 repeat' first | refine sw_seq ?_ | refine sw_block ?_ | refine sw_inBlock ?_ | refine sw_skip ?_ | refine sw_go 0 kp133 fun K hK => ?_ | refine fun (K : KT) (hK : KOk S 0 _ _ _ K) => ?_ | refine sw_goD kp133 (by kernel_rfl) fun K hK => ?_ | ((first | refine runL_go ?_ | refine runQ_go ?_ | refine sw_ret (ret0 ?_) | refine sw_ret ?_); simp (disch := (refine Om.mk ?_; omega)) only [go_sem, Try.results133]) | (refine hK.nil ?_; clear hK K; simp only [go_sem]) | ((first | refine sw_cond rfl ?_ ?_) <;> intro h <;> try simp (disch := (refine Om.mk ?_; omega)) only [go_sem] at h) | refine sw_exit rfl ?_ | refine sw_loopEnd ?_ | refine hK.c0 rfl rfl rfl (arityAtX_fc _ rs _ hg) rfl rfl rfl ?_ | (with_reducible refine And.intro (by first | omega | (simp only [lens]; omega)) ?_) | ((with_reducible refine And.intro ?_ ?_); · first | (intro x hx; subst hx; rfl) | (intro x; refine And.intro ?_ ?_ <;> (intros; subst_vars; rfl))) | fail
 rw [hn2]
 refine sw_tok 7 26000 3 1 rfl (.inl rfl) rfl ?_
 simp only [go_sem]
 refine sw_loopT (ι := Nat) (fun j => [(9, .int .i64 (n - j : Int)), (8, .int .i64 (nthB rs (phiL t) (a + 1) j)), (7, .sl (.own 26000 3 1) ((begS rs (phiL t) j (a + 1)).map natD))]) (fun _ => []) (fun _ => [26000]) (fun j => j ≤ n) (fun j => n - j) 0 (by (refine covers_mk0 rfl rfl ?_ ?_ ?_ ?_ <;> simp (disch := (refine Om.mk ?_; omega)) only [go_sem] <;> (try omega)); simp [nthB, begS]) (by omega) (fun j hj => ?_)
 simp only [go_sem]
 have hb := begS_length rs (phiL t) j (a + 1)
 have h3 := hle j hj
 have h4 := hlt j
 have h5 : j < n → ((endS rs (phiL t) (nthB rs (phiL t) (a + 1) j)).toNat : Int) = endS rs (phiL t) (nthB rs (phiL t) (a + 1) j) := fun hj => by have := endS_ge hT.1 (h4 hj).2; omega
 repeat' first | refine sw_seq ?_ | refine sw_block ?_ | refine sw_inBlock ?_ | refine sw_skip ?_ | refine sw_go 0 kp133 fun K hK => ?_ | refine fun (K : KT) (hK : KOk S 0 _ _ _ K) => ?_ | refine sw_goD kp133 (by kernel_rfl) fun K hK => ?_ | ((first | refine runL_go ?_ | refine runQ_go ?_ | refine sw_ret (ret0 ?_) | refine sw_ret ?_); simp (disch := (refine Om.mk ?_; omega)) only [go_sem, Try.results133]) | (refine hK.nil ?_; clear hK K; simp only [go_sem]) | ((first | refine sw_cond rfl ?_ ?_) <;> intro h <;> try simp (disch := (refine Om.mk ?_; omega)) only [go_sem] at h) | refine sw_exit rfl ?_ | refine sw_loopEnd ?_ | refine hK.c0 rfl rfl rfl (endAtX_fc _ _ rs t (nthB rs (phiL t) (a + 1) j) hT.1.1 hT.2 hl (by omega)) rfl rfl rfl ?_ | (with_reducible refine And.intro (by first | omega | (simp only [lens]; omega)) ?_) | ((with_reducible refine And.intro ?_ ?_); · first | (intro x hx; subst hx; rfl) | (intro x; refine And.intro ?_ ?_ <;> (intros; subst_vars; rfl))) | fail
 ·refine ⟨j + 1, (by (refine covers_mk0 rfl rfl ?_ ?_ ?_ ?_ <;> simp (disch := (refine Om.mk ?_; omega)) only [go_sem] <;> (try omega)); have := h5 (by omega); simp only [nthB, begS_snoc, List.map_append, List.map_cons, List.map_nil, natD]; exact ⟨trivial, this.symm, by omega⟩), by omega, by omega⟩
 ·rw [show j = n by omega]
end Go.Proofs.Ytlcdahaihlflaaa
end
