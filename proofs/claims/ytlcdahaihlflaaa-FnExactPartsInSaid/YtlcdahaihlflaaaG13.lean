/-
  A17s, P28, MFnExactPartsIn, LFnExactPartsIn, one behind the other.
-/
import Derived.Test.YtlcdahaihlflaaaG6
import Derived.Test.YtlcdahaihlflaaaG4
import Derived.Test.YtlcdahaihlflaaaG12
import Derived.Test.YtlcdahaihlflaaaSet
import Derived.Test.YtlcdahaihlflaaaLTy
import Derived.Test.YtlcdahaihlflaaaG0
section
namespace Go.Proofs.Ytlcdahaihlflaaa
open Go Go.Lg
set_option linter.unusedSimpArgs false
set_option linter.unusedVariables false
set_option maxHeartbeats 4000000
attribute [local irreducible] SW runL runQ runG runQG FC Ret1 toF redoL
def kp71 : List (Nat × List Nat) := [(0, [0, 1]), (1, [0, 1, 7, 8, 9]), (2, [0, 1, 7, 8, 9, 10]), (3, [0, 1, 5, 6, 7, 8, 9]), (4, [0, 1, 7, 8, 9, 33]), (5, [4]), (6, [0, 1, 7, 8, 9]), (7, [4])]
attribute [go_sem] kp71
theorem setOk_fc (set : List Int) (n : Nat) (hn : n ≤ 1000) : FC S 71 [] [] [] [.sl .any (set.map (.int .i64)), .int .i64 n] (.bool (tst (SetPP set n))) [] [] := by
 refine fc_body Try.func71 rfl (by kernel_rfl) (by simp [Try.f71]) fun B => ?_
 simp only [Try.ntmps71, enumD, lst0, Nat.reduceAdd]
 refine sw_bnd 0 rfl fun hb0 => ?_
 simp only [D.bnd, List.length_map] at hb0
 repeat' first | refine sw_seq ?_ | refine sw_block ?_ | refine sw_inBlock ?_ | refine sw_skip ?_ | refine sw_go 0 kp71 fun K hK => ?_ | refine fun (K : KT) (hK : KOk S 0 _ _ _ K) => ?_ | ((first | refine runL_go ?_ | refine sw_ret (ret0 ?_) | refine sw_ret ?_); simp (disch := (refine Om.mk ?_; omega)) only [go_sem, Try.results71]) | (refine hK.nil ?_; clear hK K; simp only [go_sem]) | ((first | refine runG_fork rfl rfl rfl rfl rfl ?_ ?_ | refine sw_cond rfl ?_ ?_) <;> intro h <;> try simp (disch := (refine Om.mk ?_; omega)) only [go_sem] at h) | refine hK.skp rfl rfl ?_ | refine sw_exit rfl ?_ | refine sw_loopEnd ?_ | (refine hK.fork rfl rfl rfl ?_ ?_ <;> intro h <;> try simp (disch := (refine Om.mk ?_; omega)) only [go_sem] at h) | (with_reducible refine And.intro (by first | omega | (simp only [lens]; omega)) ?_) | fail
 refine sw_loopU (ι := Nat) (fun p => [(9, .int .i64 p)]) (fun p => []) (fun p => p ≤ set.length ∧ ∀ j < p, (0 ≤ set.getD j default ∧ set.getD j default < n) ∧ (0 < j → set.getD (j - 1) default < set.getD j default)) (fun p => set.length - p) 0 (by (refine covers_mk0 rfl rfl ?_ ?_ ?_ ?_ <;> simp (disch := (refine Om.mk ?_; omega)) only [go_sem] <;> (try omega))) ?_ (fun p hp => ?_)
 rotate_left
 simp only [go_sem]
 obtain ⟨hp, hj⟩ := hp
 repeat' first | refine sw_seq ?_ | refine sw_block ?_ | refine sw_inBlock ?_ | refine sw_skip ?_ | refine sw_go 0 kp71 fun K hK => ?_ | refine fun (K : KT) (hK : KOk S 0 _ _ _ K) => ?_ | ((first | refine runL_go ?_ | refine sw_ret (ret0 ?_) | refine sw_ret ?_); simp (disch := (refine Om.mk ?_; omega)) only [go_sem, Try.results71]) | (refine hK.nil ?_; clear hK K; simp only [go_sem]) | ((first | refine runG_fork rfl rfl rfl rfl rfl ?_ ?_ | refine sw_cond rfl ?_ ?_) <;> intro h <;> try simp (disch := (refine Om.mk ?_; omega)) only [go_sem] at h) | refine hK.skp rfl rfl ?_ | refine sw_exit rfl ?_ | refine sw_loopEnd ?_ | (refine hK.fork rfl rfl rfl ?_ ?_ <;> intro h <;> try simp (disch := (refine Om.mk ?_; omega)) only [go_sem] at h) | (with_reducible refine And.intro (by first | omega | (simp only [lens]; omega)) ?_) | fail
 all_goals first | exact fun hS => absurd (hS p (by omega)) (by omega) | exact fun j hj' => hj j (by omega) | exact ⟨p + 1, (by (refine covers_mk0 rfl rfl ?_ ?_ ?_ ?_ <;> simp (disch := (refine Om.mk ?_; omega)) only [go_sem] <;> (try omega))), ⟨by omega, upto_succ hj (by omega)⟩, by omega⟩ | exact fun j hj' => absurd hj' (by omega) | skip
end Go.Proofs.Ytlcdahaihlflaaa
end
section
namespace Go.Proofs.Ytlcdahaihlflaaa
open Go Go.Lg
set_option linter.unusedSimpArgs false
set_option linter.unusedVariables false
set_option maxHeartbeats 4000000
attribute [local irreducible] SW runL runQ runG runQG FC Ret1 toF redoL ConnP partsR graphG
open Classical in
noncomputable def partsInR (x : SystemT) (set : List Int) : List (List Int) := if PairsP x ∧ SetPP set (allP x).length then partsR (graphG x (allP x) (allP x).length) set else []
theorem partsInR_yes {x : SystemT} {set : List Int} (h : PairsP x ∧ SetPP set (allP x).length) : partsInR x set = partsR (graphG x (allP x) (allP x).length) set := if_pos h
theorem partsInR_no {x : SystemT} {set : List Int} (h : ¬ (PairsP x ∧ SetPP set (allP x).length)) : partsInR x set = [] := if_neg h
section
variable {set : List Int} {n : Nat}
theorem setPP_lt (h : SetPP set n) : ∀ d i, i + d + 1 < set.length → set.getD i default < set.getD (i + d + 1) default
 | 0, i, hi => (h (i + 1) hi).2 (by omega)
 | d + 1, i, hi => by
  have h1 := setPP_lt h d i (by omega)
  have h2 := (h (i + (d + 1) + 1) hi).2 (by omega)
  rw [show i + (d + 1) + 1 - 1 = i + d + 1 by omega] at h2
  omega
theorem setPP_sort (h : SetPP set n) : SortP set := by
 refine List.pairwise_iff_getElem.2 fun i j hi hj hij => ?_
 have := setPP_lt h (j - i - 1) i (by omega)
 rw [show i + (j - i - 1) + 1 = j by omega, List.getD_eq_getElem?_getD, List.getD_eq_getElem?_getD, List.getElem?_eq_getElem hi, List.getElem?_eq_getElem hj] at this
 exact this
theorem setPP_in (h : SetPP set n) : ∀ q ∈ set, 0 ≤ q ∧ q < n := fun q hq => by
 obtain ⟨j, hj, rfl⟩ := List.getElem_of_mem hq
 have := (h j hj).1
 rwa [List.getD_eq_getElem?_getD, List.getElem?_eq_getElem hj] at this
theorem setPP_nodup (h : SetPP set n) : (natS set).Nodup := by
 unfold natS
 refine List.pairwise_map.2 ((setPP_sort h).imp_of_mem fun {a b} ha hb hab => ?_)
 have h1 := setPP_in h a ha
 have h2 := setPP_in h b hb
 omega
end
theorem graph_ok {x : SystemT} (hP : PairsP x) : (graphG x (allP x) (allP x).length).length = (allP x).length ∧ (∀ i < (graphG x (allP x) (allP x).length).length, ((graphG x (allP x) (allP x).length).getD i default).length ≤ 64) ∧ ∀ i < (graphG x (allP x) (allP x).length).length, ∀ j < ((graphG x (allP x) (allP x).length).getD i default).length, 0 ≤ ((graphG x (allP x) (allP x).length).getD i default).getD j default ∧ ((graphG x (allP x) (allP x).length).getD i default).getD j default < (allP x).length := by
 have h64 : (allP x).length ≤ 64 := hP.2
 have hl := graphG_len x (allP x) (allP x).length
 refine ⟨hl, fun i hi => ?_, fun i hi j hj => ?_⟩
 ·rw [graphG_get x (allP x) _ i (by omega)]
  have := rowG_len x (allP x) i (allP x).length
  omega
 ·rw [graphG_get x (allP x) _ i (by omega)] at hj ⊢
  exact rowG_mem x (allP x) i _ _ (getD_mem _ j hj)
theorem sum_leP {c : Nat} : ∀ xs : List (List Int), (∀ x ∈ xs, x.length ≤ c) → (xs.map fun x => (x.length + 0)).sum ≤ c * xs.length
 | [], _ => by simp
 | x :: r, h => by
  have h1 := h x List.mem_cons_self
  have := sum_leP r fun y hy => h y (List.mem_cons_of_mem _ hy)
  simp only [List.map_cons, List.sum_cons, List.length_cons, Nat.mul_add]
  omega
theorem cmp_row {C : Nat → Nat → Bool} {set : List Int} : ∀ i ≤ set.length, ∀ y ∈ cmp C set i, y.length ≤ set.length
 | 0, _, y, h => by cases h
 | i + 1, hi, y, h => by
  unfold cmp at h
  split at h
  ·rcases List.mem_append.1 h with h | h
   ·exact cmp_row i (by omega) y h
   ·rw [List.mem_singleton.1 h]
    have := prtJ_len C (set.getD i default).toNat (set.drop i) (set.length - i)
    omega
  ·exact cmp_row i (by omega) y h
theorem partsR_mc {edges : List (List Int)} {set : List Int} (h : set.length ≤ 64) : mcInt64SS (partsR edges set) ≤ 8192 := by
 unfold partsR
 have h1 := cmp_len (wM (natS set) (r0 edges set) set.length) set set.length
 have h2 := sum_leP (c := 64) _ fun y hy => Nat.le_trans (cmp_row (C := wM (natS set) (r0 edges set) set.length) set.length (Nat.le_refl _) y hy) h
 have h3 : 64 * (cmp (wM (natS set) (r0 edges set) set.length) set set.length).length ≤ 64 * 64 := Nat.mul_le_mul_left 64 (by omega)
 unfold mcInt64SS mcInt64S
 omega
theorem partsInR_mc (x : SystemT) (set : List Int) : mcInt64SS (partsInR x set) ≤ 8192 := by
 rcases Classical.em (PairsP x ∧ SetPP set (allP x).length) with h | h
 ·rw [partsInR_yes h]
  have h64 : (allP x).length ≤ 64 := h.1.2
  have := set_le h.2
  exact partsR_mc (by omega)
 ·rw [partsInR_no h]; decide
def kp31 : List (Nat × List Nat) := [(0, [1, 2]), (1, [1, 2, 5, 6]), (2, [1, 2, 5, 20]), (3, [4]), (4, [4])]
attribute [go_sem] kp31
theorem specPartsIn_fc (x : SystemT) (set : List Int) : FC S 31 [] [] [] [SystemD x, .sl .any (set.map (.int .i64))] (.sl .any ((partsInR x set).map IntsD)) [] [] := by
 rcases Classical.em (PairsP x) with hP | hP
 ·have h64 : (allP x).length ≤ 64 := hP.2
  have cS := l18Set_fc set (allP x).length (by omega)
  have cP := specPairsOf_fc x
  rw [pairsR_yes hP] at cP
  rcases Classical.em (SetPP set (allP x).length) with hS | hS
  ·rw [partsInR_yes ⟨hP, hS⟩]
   rw [tst_true hS] at cS
   obtain ⟨g1, g2, g3⟩ := graph_ok hP
   have hsl := set_le hS
   have cG := l18Graph_fc x hP.1 (allP x) (allP_ok hP) h64
   have cT := l18Parts_fc (graphG x (allP x) (allP x).length) set (by omega) (by rw [g1]; exact setPP_in hS) (fun i hi => by have := g2 i hi; omega) (setPP_sort hS) (by omega)
   generalize graphG x (allP x) (allP x).length = gr at *
   refine fc_body Try.func31 rfl (by kernel_rfl) (by simp [Try.f31]) fun B => ?_
   simp only [Try.ntmps31, enumD, lst0, Nat.reduceAdd]
   repeat' first | ((exfalso; omega)) | refine sw_seq ?_ | refine sw_skip ?_ | refine sw_go 0 kp31 fun K hK => ?_ | refine fun (K : KT) (hK : KOk S 0 _ _ _ K) => ?_ | ((first | refine runL_go ?_ | refine sw_ret (ret0 ?_) | refine sw_ret ?_); simp (disch := (refine Om.mk ?_; omega)) only [go_sem, Try.results31]) | (refine hK.nil ?_; clear hK K; simp only [go_sem]) | ((first | refine runG_fork rfl rfl rfl rfl rfl ?_ ?_ | refine sw_cond rfl ?_ ?_) <;> intro h <;> try simp (disch := (refine Om.mk ?_; omega)) only [go_sem] at h) | refine hK.skp rfl rfl ?_ | refine sw_loopEnd ?_ | refine hK.c0 rfl rfl rfl (cP) rfl rfl rfl ?_ | refine hK.c0 rfl rfl rfl (cS) rfl rfl rfl ?_ | refine hK.c0 rfl rfl rfl (cG) rfl rfl rfl ?_ | refine hK.c0 rfl rfl rfl (cT) rfl rfl rfl ?_ | (refine hK.fork rfl rfl rfl ?_ ?_ <;> intro h <;> try simp (disch := (refine Om.mk ?_; omega)) only [go_sem] at h) | (with_reducible refine And.intro (by first | omega | (simp only [lens]; omega)) ?_) | ((with_reducible refine And.intro ?_ ?_); · first | (intro x hx; subst hx; rfl) | exact upR_mem fun _ _ => rfl | exact mapR_mem fun _ _ => rfl | (intro x; refine And.intro ?_ ?_ <;> (intros; subst_vars; rfl))) | fail
  ·rw [partsInR_no fun h => hS h.2]
   rw [tst_false hS] at cS
   refine fc_body Try.func31 rfl (by kernel_rfl) (by simp [Try.f31]) fun B => ?_
   simp only [Try.ntmps31, enumD, lst0, Nat.reduceAdd]
   repeat' first | ((exfalso; omega)) | refine sw_seq ?_ | refine sw_skip ?_ | refine sw_go 0 kp31 fun K hK => ?_ | refine fun (K : KT) (hK : KOk S 0 _ _ _ K) => ?_ | ((first | refine runL_go ?_ | refine sw_ret (ret0 ?_) | refine sw_ret ?_); simp (disch := (refine Om.mk ?_; omega)) only [go_sem, Try.results31]) | (refine hK.nil ?_; clear hK K; simp only [go_sem]) | ((first | refine runG_fork rfl rfl rfl rfl rfl ?_ ?_ | refine sw_cond rfl ?_ ?_) <;> intro h <;> try simp (disch := (refine Om.mk ?_; omega)) only [go_sem] at h) | refine hK.skp rfl rfl ?_ | refine sw_loopEnd ?_ | refine hK.c0 rfl rfl rfl (cP) rfl rfl rfl ?_ | refine hK.c0 rfl rfl rfl (cS) rfl rfl rfl ?_ | (refine hK.fork rfl rfl rfl ?_ ?_ <;> intro h <;> try simp (disch := (refine Om.mk ?_; omega)) only [go_sem] at h) | (with_reducible refine And.intro (by first | omega | (simp only [lens]; omega)) ?_) | ((with_reducible refine And.intro ?_ ?_); · first | (intro x hx; subst hx; rfl) | exact upR_mem fun _ _ => rfl | exact mapR_mem fun _ _ => rfl | (intro x; refine And.intro ?_ ?_ <;> (intros; subst_vars; rfl))) | fail
 ·rw [partsInR_no fun h => hP h.1]
  have cP := specPairsOf_fc x
  rw [pairsR_no hP] at cP
  refine fc_body Try.func31 rfl (by kernel_rfl) (by simp [Try.f31]) fun B => ?_
  simp only [Try.ntmps31, enumD, lst0, Nat.reduceAdd]
  repeat' first | ((exfalso; omega)) | refine sw_seq ?_ | refine sw_skip ?_ | refine sw_go 0 kp31 fun K hK => ?_ | refine fun (K : KT) (hK : KOk S 0 _ _ _ K) => ?_ | ((first | refine runL_go ?_ | refine sw_ret (ret0 ?_) | refine sw_ret ?_); simp (disch := (refine Om.mk ?_; omega)) only [go_sem, Try.results31]) | (refine hK.nil ?_; clear hK K; simp only [go_sem]) | ((first | refine runG_fork rfl rfl rfl rfl rfl ?_ ?_ | refine sw_cond rfl ?_ ?_) <;> intro h <;> try simp (disch := (refine Om.mk ?_; omega)) only [go_sem] at h) | refine hK.skp rfl rfl ?_ | refine sw_loopEnd ?_ | refine hK.c0 rfl rfl rfl (cP) rfl rfl rfl ?_ | (refine hK.fork rfl rfl rfl ?_ ?_ <;> intro h <;> try simp (disch := (refine Om.mk ?_; omega)) only [go_sem] at h) | (with_reducible refine And.intro (by first | omega | (simp only [lens]; omega)) ?_) | ((with_reducible refine And.intro ?_ ?_); · first | (intro x hx; subst hx; rfl) | exact upR_mem fun _ _ => rfl | exact mapR_mem fun _ _ => rfl | (intro x; refine And.intro ?_ ?_ <;> (intros; subst_vars; rfl))) | fail
def kp34 : List (Nat × List Nat) := [(0, [1, 2]), (1, [1, 2, 5, 6]), (2, [1, 2, 5, 20]), (3, [4]), (4, [4])]
attribute [go_sem] kp34
theorem implPartsIn_fc (p : List Nat) (hp : p ≠ []) (x : SystemT) (set : List Int) : FC S 34 [] [] [] [SystemD x, .sl .any (set.map (.int .i64))] (Int64SSL p (partsInR x set)) [] [] := by
 rcases Classical.em (PairsP x) with hP | hP
 ·have h64 : (allP x).length ≤ 64 := hP.2
  have cS := setOk_fc set (allP x).length (by omega)
  have cP := implPairsOf_fc x
  rw [pairsR_yes hP] at cP
  rcases Classical.em (SetPP set (allP x).length) with hS | hS
  ·rw [partsInR_yes ⟨hP, hS⟩]
   rw [tst_true hS] at cS
   obtain ⟨g1, g2, g3⟩ := graph_ok hP
   have hsl := set_le hS
   have cG := graph_fc x hP.1 (allP x) (allP_ok hP) h64
   have cT := parts_fc p hp (graphG x (allP x) (allP x).length) set (by omega) (by rw [g1]; exact fun i hi => (hS i hi).1) (by rw [g1]; exact fun i hi => g3 i (by omega)) (fun i hi => by have := g2 i hi; omega) (setPP_nodup hS) (by omega)
   generalize graphG x (allP x) (allP x).length = gr at *
   generalize partsR gr set = R at *
   refine fc_body Try.func34 rfl (by kernel_rfl) (by simp [Try.f34]) fun B => ?_
   simp only [Try.ntmps34, enumD, lst0, Nat.reduceAdd]
   repeat' first | ((exfalso; omega)) | refine sw_seq ?_ | refine sw_skip ?_ | refine sw_go 0 kp34 fun K hK => ?_ | refine fun (K : KT) (hK : KOk S 0 _ _ _ K) => ?_ | ((first | refine runL_go ?_ | refine sw_ret (ret0 ?_) | refine sw_ret ?_); simp (disch := (refine Om.mk ?_; omega)) only [go_sem, Try.results34]) | (refine hK.nil ?_; clear hK K; simp only [go_sem]) | ((first | refine runG_fork rfl rfl rfl rfl rfl ?_ ?_ | refine sw_cond rfl ?_ ?_) <;> intro h <;> try simp (disch := (refine Om.mk ?_; omega)) only [go_sem] at h) | refine hK.skp rfl rfl ?_ | refine sw_loopEnd ?_ | refine hK.c0 rfl rfl rfl (cP) rfl rfl rfl ?_ | refine hK.c0 rfl rfl rfl (cS) rfl rfl rfl ?_ | refine hK.c0 rfl rfl rfl (cG) rfl rfl rfl ?_ | refine hK.c0 rfl rfl rfl (cT) rfl rfl rfl ?_ | (refine hK.fork rfl rfl rfl ?_ ?_ <;> intro h <;> try simp (disch := (refine Om.mk ?_; omega)) only [go_sem] at h) | (with_reducible refine And.intro (by first | omega | (simp only [lens]; omega)) ?_) | fail
  ·rw [partsInR_no fun h => hS h.2]
   rw [tst_false hS] at cS
   refine fc_body Try.func34 rfl (by kernel_rfl) (by simp [Try.f34]) fun B => ?_
   simp only [Try.ntmps34, enumD, lst0, Nat.reduceAdd]
   repeat' first | ((exfalso; omega)) | refine sw_seq ?_ | refine sw_skip ?_ | refine sw_go 0 kp34 fun K hK => ?_ | refine fun (K : KT) (hK : KOk S 0 _ _ _ K) => ?_ | ((first | refine runL_go ?_ | refine sw_ret (ret0 ?_) | refine sw_ret ?_); simp (disch := (refine Om.mk ?_; omega)) only [go_sem, Try.results34]) | (refine hK.nil ?_; clear hK K; simp only [go_sem]) | ((first | refine runG_fork rfl rfl rfl rfl rfl ?_ ?_ | refine sw_cond rfl ?_ ?_) <;> intro h <;> try simp (disch := (refine Om.mk ?_; omega)) only [go_sem] at h) | refine hK.skp rfl rfl ?_ | refine sw_loopEnd ?_ | refine hK.c0 rfl rfl rfl (cP) rfl rfl rfl ?_ | refine hK.c0 rfl rfl rfl (cS) rfl rfl rfl ?_ | (refine hK.fork rfl rfl rfl ?_ ?_ <;> intro h <;> try simp (disch := (refine Om.mk ?_; omega)) only [go_sem] at h) | (with_reducible refine And.intro (by first | omega | (simp only [lens]; omega)) ?_) | fail
   all_goals (simp [mapR, le0]; done)
 ·rw [partsInR_no fun h => hP h.1]
  have cP := implPairsOf_fc x
  rw [pairsR_no hP] at cP
  refine fc_body Try.func34 rfl (by kernel_rfl) (by simp [Try.f34]) fun B => ?_
  simp only [Try.ntmps34, enumD, lst0, Nat.reduceAdd]
  repeat' first | ((exfalso; omega)) | refine sw_seq ?_ | refine sw_skip ?_ | refine sw_go 0 kp34 fun K hK => ?_ | refine fun (K : KT) (hK : KOk S 0 _ _ _ K) => ?_ | ((first | refine runL_go ?_ | refine sw_ret (ret0 ?_) | refine sw_ret ?_); simp (disch := (refine Om.mk ?_; omega)) only [go_sem, Try.results34]) | (refine hK.nil ?_; clear hK K; simp only [go_sem]) | ((first | refine runG_fork rfl rfl rfl rfl rfl ?_ ?_ | refine sw_cond rfl ?_ ?_) <;> intro h <;> try simp (disch := (refine Om.mk ?_; omega)) only [go_sem] at h) | refine hK.skp rfl rfl ?_ | refine sw_loopEnd ?_ | refine hK.c0 rfl rfl rfl (cP) rfl rfl rfl ?_ | (refine hK.fork rfl rfl rfl ?_ ?_ <;> intro h <;> try simp (disch := (refine Om.mk ?_; omega)) only [go_sem] at h) | (with_reducible refine And.intro (by first | omega | (simp only [lens]; omega)) ?_) | fail
  all_goals (simp [mapR, le0]; done)
end Go.Proofs.Ytlcdahaihlflaaa
end
section
namespace Go.Proofs.Ytlcdahaihlflaaa
open Go Go.Lg
set_option linter.unusedSimpArgs false
set_option linter.unusedVariables false
set_option maxHeartbeats 4000000
set_option maxRecDepth 20000
attribute [local irreducible] OpsM SM
theorem markInt64S_mk : MKs S.P 38 shInt64S := by
 refine ⟨⟨_, Try.func38, by kernel_rfl, rfl⟩, fun lim w v qs k h hW h0 hb => ?_⟩
 refine calls_of_sm (vals := [v, Value.int .i64 k]) (t := 4) Try.func38 rfl (by simp [Try.f38]) rfl (R := fun E' w' => Lg.look E' 4 = some (Value.int .i64 (k + qs.length)) ∧ w' = wrs w qs k) ?_ (fun E' w' h => ⟨_, h.1, rfl, h.2⟩)
 simp only [Try.ntmps38, enumV]
 repeat' first
  | refine sm_seq ?_
  | refine sm_block ?_
  | refine sm_skip ?_
  | refine sm_inBlock ?_
  | refine sm_region ?_
  | refine m_move rfl (by decide) ?_
  | refine m_assign rfl (by decide) ?_
  | refine m_len rfl (kd_slice rfl) (by decide) ?_
  | refine m_lss rfl rfl (by decide) ?_
  | refine m_nil ?_
 refine sm_mark_loop h hW h0 hb (by intro p hp; simp only [List.mem_cons, List.not_mem_nil, or_false] at hp; rcases hp with rfl | rfl | rfl <;> rfl) fun A m cp hv hm i k' wi J hk0 hkm hi hx hend => ?_
 subst hv
 simp only [maxLen] at hm
 repeat' first
  | refine sm_seq ?_
  | refine sm_block ?_
  | refine sm_skip ?_
  | refine sm_inBlock ?_
  | refine sm_region ?_
  | refine m_move rfl (by decide) ?_
  | refine m_assign rfl (by decide) ?_
  | refine m_len rfl (kd_slice rfl) (by decide) ?_
  | refine m_lss rfl rfl (by decide) ?_
  | refine m_nil ?_
 refine sm_cond rfl (fun hc => ?_) (fun hc => ?_)
 ·have hlt : i < m := by simpa using hc
  obtain ⟨b, o, l, rfl, hF0, hw0, hkb, hJ⟩ := hx hlt
  have hk0' := hk0
  obtain ⟨r1, m1, rfl, hm1, -, hn1⟩ := LvF.cell_step hF0
  have ha1 := hw0 _ List.mem_cons_self
  have hb1 := fun q hq => hw0 q (List.mem_cons_of_mem _ hq)
  simp only [List.length_cons] at hkb
  repeat' first
   | refine m_indexAddr rfl rfl (kd_slice rfl) (fun w => Lg.run_sizeOf (S.ok _ _ rfl) w) hlt (by decide) ?_
   | refine m_fieldAddr (S := S) rfl rfl rfl rfl rfl (by decide) (by decide) ?_
   | refine m_store (S := S) rfl rfl rfl rfl rfl ha1 hm1 ?_
   | refine m_add rfl rfl (by omega) (by decide) ?_
   | refine sm_seq ?_
   | refine sm_block ?_
   | refine sm_skip ?_
   | refine sm_inBlock ?_
   | refine sm_region ?_
   | refine m_move rfl (by decide) ?_
   | refine m_assign rfl (by decide) ?_
   | refine m_len rfl (kd_slice rfl) (by decide) ?_
   | refine m_lss rfl rfl (by decide) ?_
   | refine m_nil ?_
  obtain ⟨hF1, hw1⟩ := hn1 (k') ha1 hb1
  obtain rfl := hF1.nil_step
  repeat' first
   | refine m_add rfl rfl (by omega) (by decide) ?_
   | refine sm_seq ?_
   | refine sm_block ?_
   | refine sm_skip ?_
   | refine sm_inBlock ?_
   | refine sm_region ?_
   | refine m_move rfl (by decide) ?_
   | refine m_assign rfl (by decide) ?_
   | refine m_len rfl (kd_slice rfl) (by decide) ?_
   | refine m_lss rfl rfl (by decide) ?_
   | refine m_nil ?_
  refine sm_loopEnd (Eq.mp (congrArg (J _) ?_) (hJ _ ?_))
  ·first | rfl | (simp only [wrs_append, wrs, List.append_nil]; done) | (simp only [wrs_append, wrs, List.append_nil]; rfl)
  intro p hp
  simp only [List.mem_cons, List.not_mem_nil, or_false] at hp
  rcases hp with rfl | rfl | rfl
  ·rfl
  ·exact int_eq (by simp only [List.length_append, List.length_cons, List.length_nil]; omega)
  ·rfl
 ·have hlt : ¬ i < m := by simpa using hc
  obtain ⟨rfl, rfl⟩ := hend (by omega)
  refine sm_exit rfl ?_
  repeat' first
   | refine sm_seq ?_
   | refine sm_block ?_
   | refine sm_skip ?_
   | refine sm_inBlock ?_
   | refine sm_region ?_
   | refine m_move rfl (by decide) ?_
   | refine m_assign rfl (by decide) ?_
   | refine m_len rfl (kd_slice rfl) (by decide) ?_
   | refine m_lss rfl rfl (by decide) ?_
   | refine m_nil ?_
  exact sm_ret ⟨rfl, rfl⟩
theorem heldInt64S_mk : HDs S.P 51 shInt64S := by
 refine ⟨⟨_, Try.func51, by kernel_rfl, rfl⟩, fun lim w v qs k h hW h0 hb => ?_⟩
 refine calls_of_sm (vals := [v, Value.int .i64 k]) (t := 4) Try.func51 rfl (by simp [Try.f51]) rfl (R := fun E' w' => Lg.look E' 4 = some (Value.int .i64 (k + qs.length)) ∧ w' = w) ?_ (fun E' w' h => ⟨_, h.1, rfl, h.2⟩)
 simp only [Try.ntmps51, enumV]
 repeat' first
  | refine sm_seq ?_
  | refine sm_block ?_
  | refine sm_skip ?_
  | refine sm_inBlock ?_
  | refine sm_region ?_
  | refine m_move rfl (by decide) ?_
  | refine m_assign rfl (by decide) ?_
  | refine m_len rfl (kd_slice rfl) (by decide) ?_
  | refine m_lss rfl rfl (by decide) ?_
  | refine m_nil ?_
 refine sm_held_loop h hW h0 hb (by intro p hp; simp only [List.mem_cons, List.not_mem_nil, or_false] at hp; rcases hp with rfl | rfl | rfl <;> rfl) fun A m cp hv hm i k' J hk0 hkm hi hx hend => ?_
 subst hv
 simp only [maxLen] at hm
 repeat' first
  | refine sm_seq ?_
  | refine sm_block ?_
  | refine sm_skip ?_
  | refine sm_inBlock ?_
  | refine sm_region ?_
  | refine m_move rfl (by decide) ?_
  | refine m_assign rfl (by decide) ?_
  | refine m_len rfl (kd_slice rfl) (by decide) ?_
  | refine m_lss rfl rfl (by decide) ?_
  | refine m_nil ?_
 refine sm_cond rfl (fun hc => ?_) (fun hc => ?_)
 ·have hlt : i < m := by simpa using hc
  obtain ⟨b, o, l, rfl, hF0, hw0, hkb, hJ⟩ := hx hlt
  obtain ⟨r1, m1, rfl, hm1, hF1, -⟩ := LvF.cell_step hF0
  have ha1 := (holds_head hw0).int hm1
  have hw1 := holds_tail hw0
  simp only [List.length_cons] at hkb
  repeat' first
   | refine m_indexAddr rfl rfl (kd_slice rfl) (fun w => Lg.run_sizeOf (S.ok _ _ rfl) w) hlt (by decide) ?_
   | refine m_fieldAddr (S := S) rfl rfl rfl rfl rfl (by decide) (by decide) ?_
   | refine m_load (S := S) rfl rfl rfl rfl ha1 (by decide) ?_
   | refine m_neq rfl rfl (by decide) ?_
   | refine sm_seq ?_
   | refine sm_block ?_
   | refine sm_skip ?_
   | refine sm_inBlock ?_
   | refine sm_region ?_
   | refine m_move rfl (by decide) ?_
   | refine m_assign rfl (by decide) ?_
   | refine m_len rfl (kd_slice rfl) (by decide) ?_
   | refine m_lss rfl rfl (by decide) ?_
   | refine m_nil ?_
  refine sm_cond rfl (fun hc => absurd hc (by simp)) (fun _ => ?_)
  repeat' first
   | refine m_add rfl rfl (by omega) (by decide) ?_
   | refine sm_seq ?_
   | refine sm_block ?_
   | refine sm_skip ?_
   | refine sm_inBlock ?_
   | refine sm_region ?_
   | refine m_move rfl (by decide) ?_
   | refine m_assign rfl (by decide) ?_
   | refine m_len rfl (kd_slice rfl) (by decide) ?_
   | refine m_lss rfl rfl (by decide) ?_
   | refine m_nil ?_
  obtain rfl := hF1.nil_step
  repeat' first
   | refine m_add rfl rfl (by omega) (by decide) ?_
   | refine sm_seq ?_
   | refine sm_block ?_
   | refine sm_skip ?_
   | refine sm_inBlock ?_
   | refine sm_region ?_
   | refine m_move rfl (by decide) ?_
   | refine m_assign rfl (by decide) ?_
   | refine m_len rfl (kd_slice rfl) (by decide) ?_
   | refine m_lss rfl rfl (by decide) ?_
   | refine m_nil ?_
  refine sm_loopEnd (hJ _ ?_)
  intro p hp
  simp only [List.mem_cons, List.not_mem_nil, or_false] at hp
  rcases hp with rfl | rfl | rfl
  ·rfl
  ·exact int_eq (by simp only [List.length_append, List.length_cons, List.length_nil]; omega)
  ·rfl
 ·have hlt : ¬ i < m := by simpa using hc
  obtain rfl := hend (by omega)
  refine sm_exit rfl ?_
  repeat' first
   | refine sm_seq ?_
   | refine sm_block ?_
   | refine sm_skip ?_
   | refine sm_inBlock ?_
   | refine sm_region ?_
   | refine m_move rfl (by decide) ?_
   | refine m_assign rfl (by decide) ?_
   | refine m_len rfl (kd_slice rfl) (by decide) ?_
   | refine m_lss rfl rfl (by decide) ?_
   | refine m_nil ?_
  exact sm_ret ⟨rfl, rfl⟩
theorem markInt64SS_mk : MKs S.P 13 shInt64SS := by
 refine ⟨⟨_, Try.func13, by kernel_rfl, rfl⟩, fun lim w v qs k h hW h0 hb => ?_⟩
 refine calls_of_sm (vals := [v, Value.int .i64 k]) (t := 4) Try.func13 rfl (by simp [Try.f13]) rfl (R := fun E' w' => Lg.look E' 4 = some (Value.int .i64 (k + qs.length)) ∧ w' = wrs w qs k) ?_ (fun E' w' h => ⟨_, h.1, rfl, h.2⟩)
 simp only [Try.ntmps13, enumV]
 repeat' first
  | refine sm_seq ?_
  | refine sm_block ?_
  | refine sm_skip ?_
  | refine sm_inBlock ?_
  | refine sm_region ?_
  | refine m_move rfl (by decide) ?_
  | refine m_assign rfl (by decide) ?_
  | refine m_len rfl (kd_slice rfl) (by decide) ?_
  | refine m_lss rfl rfl (by decide) ?_
  | refine m_nil ?_
 refine sm_mark_loop h hW h0 hb (by intro p hp; simp only [List.mem_cons, List.not_mem_nil, or_false] at hp; rcases hp with rfl | rfl | rfl <;> rfl) fun A m cp hv hm i k' wi J hk0 hkm hi hx hend => ?_
 subst hv
 simp only [maxLen] at hm
 repeat' first
  | refine sm_seq ?_
  | refine sm_block ?_
  | refine sm_skip ?_
  | refine sm_inBlock ?_
  | refine sm_region ?_
  | refine m_move rfl (by decide) ?_
  | refine m_assign rfl (by decide) ?_
  | refine m_len rfl (kd_slice rfl) (by decide) ?_
  | refine m_lss rfl rfl (by decide) ?_
  | refine m_nil ?_
 refine sm_cond rfl (fun hc => ?_) (fun hc => ?_)
 ·have hlt : i < m := by simpa using hc
  obtain ⟨b, o, l, rfl, hF0, hw0, hkb, hJ⟩ := hx hlt
  have hk0' := hk0
  obtain ⟨v1, l1, r1, rfl, hc1, hL1, -, hn1⟩ := LvF.sub_step hF0
  have ha1 := fun q hq => hw0 q (List.mem_append_left _ hq)
  have hb1 := fun q hq => hw0 q (List.mem_append_right _ hq)
  simp only [List.length_append] at hkb
  repeat' first
   | refine m_indexAddr rfl rfl (kd_slice rfl) (fun w => Lg.run_sizeOf (S.ok _ _ rfl) w) hlt (by decide) ?_
   | refine m_fieldAddr (S := S) rfl rfl rfl rfl rfl (by decide) (by decide) ?_
   | refine m_load (S := S) rfl rfl rfl rfl hc1 (by decide) ?_
   | refine sm_seq ?_
   | refine sm_block ?_
   | refine sm_skip ?_
   | refine sm_inBlock ?_
   | refine sm_region ?_
   | refine m_move rfl (by decide) ?_
   | refine m_assign rfl (by decide) ?_
   | refine m_len rfl (kd_slice rfl) (by decide) ?_
   | refine m_lss rfl rfl (by decide) ?_
   | refine m_nil ?_
  refine m_call markInt64S_mk.1 rfl rfl (markInt64S_mk.2 lim _ v1 l1 _ hL1 ha1 (by omega) (by omega)) (by decide) ?_
  rintro _ _ ⟨rfl, rfl⟩
  refine ⟨_, rfl, ?_⟩
  obtain ⟨hF1, hw1⟩ := hn1 (k') ha1 hb1
  obtain rfl := hF1.nil_step
  repeat' first
   | refine m_add rfl rfl (by omega) (by decide) ?_
   | refine sm_seq ?_
   | refine sm_block ?_
   | refine sm_skip ?_
   | refine sm_inBlock ?_
   | refine sm_region ?_
   | refine m_move rfl (by decide) ?_
   | refine m_assign rfl (by decide) ?_
   | refine m_len rfl (kd_slice rfl) (by decide) ?_
   | refine m_lss rfl rfl (by decide) ?_
   | refine m_nil ?_
  refine sm_loopEnd (Eq.mp (congrArg (J _) ?_) (hJ _ ?_))
  ·first | rfl | (simp only [wrs_append, wrs, List.append_nil]; done) | (simp only [wrs_append, wrs, List.append_nil]; rfl)
  intro p hp
  simp only [List.mem_cons, List.not_mem_nil, or_false] at hp
  rcases hp with rfl | rfl | rfl
  ·rfl
  ·exact int_eq (by simp only [List.length_append, List.length_cons, List.length_nil]; omega)
  ·rfl
 ·have hlt : ¬ i < m := by simpa using hc
  obtain ⟨rfl, rfl⟩ := hend (by omega)
  refine sm_exit rfl ?_
  repeat' first
   | refine sm_seq ?_
   | refine sm_block ?_
   | refine sm_skip ?_
   | refine sm_inBlock ?_
   | refine sm_region ?_
   | refine m_move rfl (by decide) ?_
   | refine m_assign rfl (by decide) ?_
   | refine m_len rfl (kd_slice rfl) (by decide) ?_
   | refine m_lss rfl rfl (by decide) ?_
   | refine m_nil ?_
  exact sm_ret ⟨rfl, rfl⟩
theorem heldInt64SS_mk : HDs S.P 14 shInt64SS := by
 refine ⟨⟨_, Try.func14, by kernel_rfl, rfl⟩, fun lim w v qs k h hW h0 hb => ?_⟩
 refine calls_of_sm (vals := [v, Value.int .i64 k]) (t := 4) Try.func14 rfl (by simp [Try.f14]) rfl (R := fun E' w' => Lg.look E' 4 = some (Value.int .i64 (k + qs.length)) ∧ w' = w) ?_ (fun E' w' h => ⟨_, h.1, rfl, h.2⟩)
 simp only [Try.ntmps14, enumV]
 repeat' first
  | refine sm_seq ?_
  | refine sm_block ?_
  | refine sm_skip ?_
  | refine sm_inBlock ?_
  | refine sm_region ?_
  | refine m_move rfl (by decide) ?_
  | refine m_assign rfl (by decide) ?_
  | refine m_len rfl (kd_slice rfl) (by decide) ?_
  | refine m_lss rfl rfl (by decide) ?_
  | refine m_nil ?_
 refine sm_held_loop h hW h0 hb (by intro p hp; simp only [List.mem_cons, List.not_mem_nil, or_false] at hp; rcases hp with rfl | rfl | rfl <;> rfl) fun A m cp hv hm i k' J hk0 hkm hi hx hend => ?_
 subst hv
 simp only [maxLen] at hm
 repeat' first
  | refine sm_seq ?_
  | refine sm_block ?_
  | refine sm_skip ?_
  | refine sm_inBlock ?_
  | refine sm_region ?_
  | refine m_move rfl (by decide) ?_
  | refine m_assign rfl (by decide) ?_
  | refine m_len rfl (kd_slice rfl) (by decide) ?_
  | refine m_lss rfl rfl (by decide) ?_
  | refine m_nil ?_
 refine sm_cond rfl (fun hc => ?_) (fun hc => ?_)
 ·have hlt : i < m := by simpa using hc
  obtain ⟨b, o, l, rfl, hF0, hw0, hkb, hJ⟩ := hx hlt
  obtain ⟨v1, l1, r1, rfl, hc1, hL1, hF1, -⟩ := LvF.sub_step hF0
  have ha1 := holds_left hw0
  have hw1 := holds_right hw0
  simp only [List.length_append] at hkb
  repeat' first
   | refine m_indexAddr rfl rfl (kd_slice rfl) (fun w => Lg.run_sizeOf (S.ok _ _ rfl) w) hlt (by decide) ?_
   | refine m_fieldAddr (S := S) rfl rfl rfl rfl rfl (by decide) (by decide) ?_
   | refine m_load (S := S) rfl rfl rfl rfl hc1 (by decide) ?_
   | refine sm_seq ?_
   | refine sm_block ?_
   | refine sm_skip ?_
   | refine sm_inBlock ?_
   | refine sm_region ?_
   | refine m_move rfl (by decide) ?_
   | refine m_assign rfl (by decide) ?_
   | refine m_len rfl (kd_slice rfl) (by decide) ?_
   | refine m_lss rfl rfl (by decide) ?_
   | refine m_nil ?_
  refine m_call heldInt64S_mk.1 rfl rfl (heldInt64S_mk.2 lim _ v1 l1 _ hL1 ha1 (by omega) (by omega)) (by decide) ?_
  rintro _ _ ⟨rfl, rfl⟩
  refine ⟨_, rfl, ?_⟩
  repeat' first
   | refine sm_seq ?_
   | refine sm_block ?_
   | refine sm_skip ?_
   | refine sm_inBlock ?_
   | refine sm_region ?_
   | refine m_move rfl (by decide) ?_
   | refine m_assign rfl (by decide) ?_
   | refine m_len rfl (kd_slice rfl) (by decide) ?_
   | refine m_lss rfl rfl (by decide) ?_
   | refine m_nil ?_
  refine sm_cond rfl (fun hc => absurd (of_decide_eq_true hc) (by omega)) (fun _ => ?_)
  obtain rfl := hF1.nil_step
  repeat' first
   | refine m_add rfl rfl (by omega) (by decide) ?_
   | refine sm_seq ?_
   | refine sm_block ?_
   | refine sm_skip ?_
   | refine sm_inBlock ?_
   | refine sm_region ?_
   | refine m_move rfl (by decide) ?_
   | refine m_assign rfl (by decide) ?_
   | refine m_len rfl (kd_slice rfl) (by decide) ?_
   | refine m_lss rfl rfl (by decide) ?_
   | refine m_nil ?_
  refine sm_loopEnd (hJ _ ?_)
  intro p hp
  simp only [List.mem_cons, List.not_mem_nil, or_false] at hp
  rcases hp with rfl | rfl | rfl
  ·rfl
  ·exact int_eq (by simp only [List.length_append, List.length_cons, List.length_nil]; omega)
  ·rfl
 ·have hlt : ¬ i < m := by simpa using hc
  obtain rfl := hend (by omega)
  refine sm_exit rfl ?_
  repeat' first
   | refine sm_seq ?_
   | refine sm_block ?_
   | refine sm_skip ?_
   | refine sm_inBlock ?_
   | refine sm_region ?_
   | refine m_move rfl (by decide) ?_
   | refine m_assign rfl (by decide) ?_
   | refine m_len rfl (kd_slice rfl) (by decide) ?_
   | refine m_lss rfl rfl (by decide) ?_
   | refine m_nil ?_
  exact sm_ret ⟨rfl, rfl⟩
theorem markSig_mk : MKa S.P 26 fsSig := by
 refine ⟨⟨_, Try.func26, by kernel_rfl, rfl⟩, fun lim w vs qs k hl h hW h0 hb => ?_⟩
 simp only [fsSig, Fs.len] at hl
 rcases vs with _ | ⟨v0, _ | ⟨_, _⟩⟩ <;> simp at hl
 clear hl
 refine calls_of_sm (vals := [Value.agg [v0].toArray, Value.int .i64 k]) (t := 4) Try.func26 rfl (by simp [Try.f26]) rfl (R := fun E' w' => Lg.look E' 4 = some (Value.int .i64 (k + qs.length)) ∧ Marked w qs k w') ?_ (fun E' w' h => ⟨_, h.1, rfl, h.2⟩)
 simp only [Try.ntmps26, enumV]
 repeat' first
  | refine m_box rfl (by decide) ?_
  | refine sm_seq ?_
  | refine sm_block ?_
  | refine sm_skip ?_
  | refine sm_inBlock ?_
  | refine sm_region ?_
  | refine m_move rfl (by decide) ?_
  | refine m_assign rfl (by decide) ?_
  | refine m_len rfl (kd_slice rfl) (by decide) ?_
  | refine m_lss rfl rfl (by decide) ?_
  | refine m_nil ?_
 have hx0 : ∀ q ∈ ([] : List (Nat × Nat)), MkC w q := by simp
 have hM0 : Marked w [] k (w.alloc (.cells [v0].toArray 31)) := Marked.of_grown (Grown.alloc w _ _) k
 have hB0 : ∀ (j : Nat) u, [v0][j]? = some u → cellAt (w.alloc (.cells [v0].toArray 31)) w.heap.size j = some u := fun j u hj => by rw [cellAt_alloc]; simpa using hj
 have hA0 := h
 have hw0 := hW
 unfold fsSig at hA0
 obtain ⟨l1, r1, rfl, hL1, hA1⟩ := LvA.sub_step hA0
 simp only [List.length_append] at hb
 have hi1 : ∀ q ∈ l1, MkC w q := fun q hq => (Lv.ints _ _ _ hL1 q hq).2
 repeat' first
  | refine m_fieldAddr (S := S) rfl rfl rfl rfl rfl (by decide) (by decide) ?_
  | refine m_load (S := S) rfl rfl rfl rfl (hB0 0 _ rfl) (by decide) ?_
  | refine sm_seq ?_
  | refine sm_block ?_
  | refine sm_skip ?_
  | refine sm_inBlock ?_
  | refine sm_region ?_
  | refine m_move rfl (by decide) ?_
  | refine m_assign rfl (by decide) ?_
  | refine m_len rfl (kd_slice rfl) (by decide) ?_
  | refine m_lss rfl rfl (by decide) ?_
  | refine m_nil ?_
 have ha1 := fun q hq => hw0 q (List.mem_append_left _ hq)
 have hw1 := fun q hq => hw0 q (List.mem_append_right _ hq)
 have hI1 := hM0.intW lim hx0
 refine m_call markInt64S_mk.1 rfl rfl (markInt64S_mk.2 lim _ v0 l1 _ (Lv.mono hI1 _ _ _ hL1) (fun q hq => hM0.Wr (ha1 q hq)) (by omega) (by omega)) (by decide) ?_
 rintro _ w1 ⟨rfl, hm1'⟩
 refine ⟨_, rfl, ?_⟩
 have hm1 := Marked.of_wrs (k) (fun q (hq : q ∈ l1) => hM0.Wr (ha1 q hq)) (fun q hq => (Lv.ints _ _ _ (Lv.mono hI1 _ _ _ hL1) q hq).2)
 rw [← hm1'] at hm1
 have hB1 := box_stands hB0 hm1 ha1
 have hM1 := hM0.append (l2 := l1) (w'' := w1) (by simpa only [List.nil_append, List.length_append, List.length_nil, Int.natCast_add, Int.natCast_zero, Int.zero_add, Int.add_zero, Int.add_assoc] using hm1)
 have hx1 := fun q (hq : q ∈ _ ++ l1) => (List.mem_append.1 hq).elim (hx0 q) (hi1 q)
 repeat' first
  | refine sm_seq ?_
  | refine sm_block ?_
  | refine sm_skip ?_
  | refine sm_inBlock ?_
  | refine sm_region ?_
  | refine m_move rfl (by decide) ?_
  | refine m_assign rfl (by decide) ?_
  | refine m_len rfl (kd_slice rfl) (by decide) ?_
  | refine m_lss rfl rfl (by decide) ?_
  | refine m_nil ?_
 obtain rfl := hA1.nil_step
 repeat' first
  | refine sm_seq ?_
  | refine sm_block ?_
  | refine sm_skip ?_
  | refine sm_inBlock ?_
  | refine sm_region ?_
  | refine m_move rfl (by decide) ?_
  | refine m_assign rfl (by decide) ?_
  | refine m_len rfl (kd_slice rfl) (by decide) ?_
  | refine m_lss rfl rfl (by decide) ?_
  | refine m_nil ?_
 refine sm_ret ⟨?_, ?_⟩
 ·exact int_eq (by simp only [List.length_append, List.length_nil]; omega)
 ·simpa only [List.nil_append, List.append_nil, List.append_assoc] using hM1
theorem markRuleS_mk : MKs S.P 75 shRuleS := by
 refine ⟨⟨_, Try.func75, by kernel_rfl, rfl⟩, fun lim w v qs k h hW h0 hb => ?_⟩
 refine calls_of_sm (vals := [v, Value.int .i64 k]) (t := 4) Try.func75 rfl (by simp [Try.f75]) rfl (R := fun E' w' => Lg.look E' 4 = some (Value.int .i64 (k + qs.length)) ∧ w' = wrs w qs k) ?_ (fun E' w' h => ⟨_, h.1, rfl, h.2⟩)
 simp only [Try.ntmps75, enumV]
 repeat' first
  | refine sm_seq ?_
  | refine sm_block ?_
  | refine sm_skip ?_
  | refine sm_inBlock ?_
  | refine sm_region ?_
  | refine m_move rfl (by decide) ?_
  | refine m_assign rfl (by decide) ?_
  | refine m_len rfl (kd_slice rfl) (by decide) ?_
  | refine m_lss rfl rfl (by decide) ?_
  | refine m_nil ?_
 refine sm_mark_loop h hW h0 hb (by intro p hp; simp only [List.mem_cons, List.not_mem_nil, or_false] at hp; rcases hp with rfl | rfl | rfl <;> rfl) fun A m cp hv hm i k' wi J hk0 hkm hi hx hend => ?_
 subst hv
 simp only [maxLen] at hm
 repeat' first
  | refine sm_seq ?_
  | refine sm_block ?_
  | refine sm_skip ?_
  | refine sm_inBlock ?_
  | refine sm_region ?_
  | refine m_move rfl (by decide) ?_
  | refine m_assign rfl (by decide) ?_
  | refine m_len rfl (kd_slice rfl) (by decide) ?_
  | refine m_lss rfl rfl (by decide) ?_
  | refine m_nil ?_
 refine sm_cond rfl (fun hc => ?_) (fun hc => ?_)
 ·have hlt : i < m := by simpa using hc
  obtain ⟨b, o, l, rfl, hF0, hw0, hkb, hJ⟩ := hx hlt
  have hk0' := hk0
  obtain ⟨v1, l1, r1, rfl, hc1, hL1, -, hn1⟩ := LvF.sub_step hF0
  have ha1 := fun q hq => hw0 q (List.mem_append_left _ hq)
  have hb1 := fun q hq => hw0 q (List.mem_append_right _ hq)
  simp only [List.length_append] at hkb
  repeat' first
   | refine m_indexAddr rfl rfl (kd_slice rfl) (fun w => Lg.run_sizeOf (S.ok _ _ rfl) w) hlt (by decide) ?_
   | refine m_fieldAddr (S := S) rfl rfl rfl rfl rfl (by decide) (by decide) ?_
   | refine m_load (S := S) rfl rfl rfl rfl hc1 (by decide) ?_
   | refine sm_seq ?_
   | refine sm_block ?_
   | refine sm_skip ?_
   | refine sm_inBlock ?_
   | refine sm_region ?_
   | refine m_move rfl (by decide) ?_
   | refine m_assign rfl (by decide) ?_
   | refine m_len rfl (kd_slice rfl) (by decide) ?_
   | refine m_lss rfl rfl (by decide) ?_
   | refine m_nil ?_
  refine m_call markInt64S_mk.1 rfl rfl (markInt64S_mk.2 lim _ v1 l1 _ hL1 ha1 (by omega) (by omega)) (by decide) ?_
  rintro _ _ ⟨rfl, rfl⟩
  refine ⟨_, rfl, ?_⟩
  obtain ⟨hF1, hw1⟩ := hn1 (k') ha1 hb1
  obtain ⟨v2, l2, r2, rfl, hc2, hL2, -, hn2⟩ := LvF.sub_step hF1
  have ha2 := fun q hq => hw1 q (List.mem_append_left _ hq)
  have hb2 := fun q hq => hw1 q (List.mem_append_right _ hq)
  simp only [List.length_append] at hkb
  repeat' first
   | refine m_indexAddr rfl rfl (kd_slice rfl) (fun w => Lg.run_sizeOf (S.ok _ _ rfl) w) hlt (by decide) ?_
   | refine m_fieldAddr (S := S) rfl rfl rfl rfl rfl (by decide) (by decide) ?_
   | refine m_load (S := S) rfl rfl rfl rfl hc2 (by decide) ?_
   | refine sm_seq ?_
   | refine sm_block ?_
   | refine sm_skip ?_
   | refine sm_inBlock ?_
   | refine sm_region ?_
   | refine m_move rfl (by decide) ?_
   | refine m_assign rfl (by decide) ?_
   | refine m_len rfl (kd_slice rfl) (by decide) ?_
   | refine m_lss rfl rfl (by decide) ?_
   | refine m_nil ?_
  refine m_call markInt64S_mk.1 rfl rfl (markInt64S_mk.2 lim _ v2 l2 _ hL2 ha2 (by omega) (by omega)) (by decide) ?_
  rintro _ _ ⟨rfl, rfl⟩
  refine ⟨_, rfl, ?_⟩
  obtain ⟨hF2, hw2⟩ := hn2 (k' + (l1.length : Int)) ha2 hb2
  obtain rfl := hF2.nil_step
  repeat' first
   | refine m_add rfl rfl (by omega) (by decide) ?_
   | refine sm_seq ?_
   | refine sm_block ?_
   | refine sm_skip ?_
   | refine sm_inBlock ?_
   | refine sm_region ?_
   | refine m_move rfl (by decide) ?_
   | refine m_assign rfl (by decide) ?_
   | refine m_len rfl (kd_slice rfl) (by decide) ?_
   | refine m_lss rfl rfl (by decide) ?_
   | refine m_nil ?_
  refine sm_loopEnd (Eq.mp (congrArg (J _) ?_) (hJ _ ?_))
  ·first | rfl | (simp only [wrs_append, wrs, List.append_nil]; done) | (simp only [wrs_append, wrs, List.append_nil]; rfl)
  intro p hp
  simp only [List.mem_cons, List.not_mem_nil, or_false] at hp
  rcases hp with rfl | rfl | rfl
  ·rfl
  ·exact int_eq (by simp only [List.length_append, List.length_cons, List.length_nil]; omega)
  ·rfl
 ·have hlt : ¬ i < m := by simpa using hc
  obtain ⟨rfl, rfl⟩ := hend (by omega)
  refine sm_exit rfl ?_
  repeat' first
   | refine sm_seq ?_
   | refine sm_block ?_
   | refine sm_skip ?_
   | refine sm_inBlock ?_
   | refine sm_region ?_
   | refine m_move rfl (by decide) ?_
   | refine m_assign rfl (by decide) ?_
   | refine m_len rfl (kd_slice rfl) (by decide) ?_
   | refine m_lss rfl rfl (by decide) ?_
   | refine m_nil ?_
  exact sm_ret ⟨rfl, rfl⟩
theorem markSystem_mk : MKa S.P 37 fsSystem := by
 refine ⟨⟨_, Try.func37, by kernel_rfl, rfl⟩, fun lim w vs qs k hl h hW h0 hb => ?_⟩
 simp only [fsSystem, Fs.len] at hl
 rcases vs with _ | ⟨v0, _ | ⟨v1, _ | ⟨_, _⟩⟩⟩ <;> simp at hl
 clear hl
 refine calls_of_sm (vals := [Value.agg [v0, v1].toArray, Value.int .i64 k]) (t := 4) Try.func37 rfl (by simp [Try.f37]) rfl (R := fun E' w' => Lg.look E' 4 = some (Value.int .i64 (k + qs.length)) ∧ Marked w qs k w') ?_ (fun E' w' h => ⟨_, h.1, rfl, h.2⟩)
 simp only [Try.ntmps37, enumV]
 repeat' first
  | refine m_box rfl (by decide) ?_
  | refine sm_seq ?_
  | refine sm_block ?_
  | refine sm_skip ?_
  | refine sm_inBlock ?_
  | refine sm_region ?_
  | refine m_move rfl (by decide) ?_
  | refine m_assign rfl (by decide) ?_
  | refine m_len rfl (kd_slice rfl) (by decide) ?_
  | refine m_lss rfl rfl (by decide) ?_
  | refine m_nil ?_
 have hx0 : ∀ q ∈ ([] : List (Nat × Nat)), MkC w q := by simp
 have hM0 : Marked w [] k (w.alloc (.cells [v0, v1].toArray 71)) := Marked.of_grown (Grown.alloc w _ _) k
 have hB0 : ∀ (j : Nat) u, [v0, v1][j]? = some u → cellAt (w.alloc (.cells [v0, v1].toArray 71)) w.heap.size j = some u := fun j u hj => by rw [cellAt_alloc]; simpa using hj
 have hA0 := h
 have hw0 := hW
 unfold fsSystem at hA0
 obtain ⟨l1, r1, rfl, hL1, hA1⟩ := LvA.sub_step hA0
 simp only [List.length_append] at hb
 have hi1 : ∀ q ∈ l1, MkC w q := fun q hq => (Lv.ints _ _ _ hL1 q hq).2
 repeat' first
  | refine m_fieldAddr (S := S) rfl rfl rfl rfl rfl (by decide) (by decide) ?_
  | refine m_loadA (S := S) (vs := [v0]) rfl rfl rfl rfl rfl (fun i v hi => by rcases i with _ | i <;> simp at hi; subst hi; exact hB0 0 _ rfl) (by decide) ?_
  | refine sm_seq ?_
  | refine sm_block ?_
  | refine sm_skip ?_
  | refine sm_inBlock ?_
  | refine sm_region ?_
  | refine m_move rfl (by decide) ?_
  | refine m_assign rfl (by decide) ?_
  | refine m_len rfl (kd_slice rfl) (by decide) ?_
  | refine m_lss rfl rfl (by decide) ?_
  | refine m_nil ?_
 have ha1 := fun q hq => hw0 q (List.mem_append_left _ hq)
 have hw1 := fun q hq => hw0 q (List.mem_append_right _ hq)
 have hI1 := hM0.intW lim hx0
 refine m_call markSig_mk.1 rfl rfl (markSig_mk.2 lim _ [v0] l1 _ rfl (by unfold fsSig LvA LvA; exact ⟨v0, l1, [], by simp, rfl, (Lv.mono hI1 _ _ _ hL1), rfl⟩) (fun q hq => hM0.Wr (ha1 q hq)) (by omega) (by omega)) (by decide) ?_
 rintro _ w1 ⟨rfl, hm1⟩
 refine ⟨_, rfl, ?_⟩
 have hB1 := box_stands hB0 hm1 ha1
 have hM1 := hM0.append (l2 := l1) (w'' := w1) (by simpa only [List.nil_append, List.length_append, List.length_nil, Int.natCast_add, Int.natCast_zero, Int.zero_add, Int.add_zero, Int.add_assoc] using hm1)
 have hx1 := fun q (hq : q ∈ _ ++ l1) => (List.mem_append.1 hq).elim (hx0 q) (hi1 q)
 repeat' first
  | refine sm_seq ?_
  | refine sm_block ?_
  | refine sm_skip ?_
  | refine sm_inBlock ?_
  | refine sm_region ?_
  | refine m_move rfl (by decide) ?_
  | refine m_assign rfl (by decide) ?_
  | refine m_len rfl (kd_slice rfl) (by decide) ?_
  | refine m_lss rfl rfl (by decide) ?_
  | refine m_nil ?_
 obtain ⟨l2, r2, rfl, hL2, hA2⟩ := LvA.sub_step hA1
 simp only [List.length_append] at hb
 have hi2 : ∀ q ∈ l2, MkC w q := fun q hq => (Lv.ints _ _ _ hL2 q hq).2
 repeat' first
  | refine m_fieldAddr (S := S) rfl rfl rfl rfl rfl (by decide) (by decide) ?_
  | refine m_load (S := S) rfl rfl rfl rfl (hB1 1 _ rfl) (by decide) ?_
  | refine sm_seq ?_
  | refine sm_block ?_
  | refine sm_skip ?_
  | refine sm_inBlock ?_
  | refine sm_region ?_
  | refine m_move rfl (by decide) ?_
  | refine m_assign rfl (by decide) ?_
  | refine m_len rfl (kd_slice rfl) (by decide) ?_
  | refine m_lss rfl rfl (by decide) ?_
  | refine m_nil ?_
 have ha2 := fun q hq => hw1 q (List.mem_append_left _ hq)
 have hw2 := fun q hq => hw1 q (List.mem_append_right _ hq)
 have hI2 := hM1.intW lim hx1
 refine m_call markRuleS_mk.1 rfl rfl (markRuleS_mk.2 lim _ v1 l2 _ (Lv.mono hI2 _ _ _ hL2) (fun q hq => hM1.Wr (ha2 q hq)) (by omega) (by omega)) (by decide) ?_
 rintro _ w2 ⟨rfl, hm2'⟩
 refine ⟨_, rfl, ?_⟩
 have hm2 := Marked.of_wrs (k + (l1.length : Int)) (fun q (hq : q ∈ l2) => hM1.Wr (ha2 q hq)) (fun q hq => (Lv.ints _ _ _ (Lv.mono hI2 _ _ _ hL2) q hq).2)
 rw [← hm2'] at hm2
 have hB2 := box_stands hB1 hm2 ha2
 have hM2 := hM1.append (l2 := l2) (w'' := w2) (by simpa only [List.nil_append, List.length_append, List.length_nil, Int.natCast_add, Int.natCast_zero, Int.zero_add, Int.add_zero, Int.add_assoc] using hm2)
 have hx2 := fun q (hq : q ∈ _ ++ l2) => (List.mem_append.1 hq).elim (hx1 q) (hi2 q)
 repeat' first
  | refine sm_seq ?_
  | refine sm_block ?_
  | refine sm_skip ?_
  | refine sm_inBlock ?_
  | refine sm_region ?_
  | refine m_move rfl (by decide) ?_
  | refine m_assign rfl (by decide) ?_
  | refine m_len rfl (kd_slice rfl) (by decide) ?_
  | refine m_lss rfl rfl (by decide) ?_
  | refine m_nil ?_
 obtain rfl := hA2.nil_step
 repeat' first
  | refine sm_seq ?_
  | refine sm_block ?_
  | refine sm_skip ?_
  | refine sm_inBlock ?_
  | refine sm_region ?_
  | refine m_move rfl (by decide) ?_
  | refine m_assign rfl (by decide) ?_
  | refine m_len rfl (kd_slice rfl) (by decide) ?_
  | refine m_lss rfl rfl (by decide) ?_
  | refine m_nil ?_
 refine sm_ret ⟨?_, ?_⟩
 ·exact int_eq (by simp only [List.length_append, List.length_nil]; omega)
 ·simpa only [List.nil_append, List.append_nil, List.append_assoc] using hM2
end Go.Proofs.Ytlcdahaihlflaaa
end
section
namespace Go.Proofs.Ytlcdahaihlflaaa
open Go Go.Lg
set_option linter.unusedSimpArgs false
set_option linter.unusedVariables false
set_option maxHeartbeats 4000000
attribute [local irreducible] SW runL runQ runG runQG FC Ret Ret1
theorem toInt64SL_fc (p : List Nat) (hp : p ≠ []) (tk : Tk) (xs : List Int) (hn : cntInt64S xs ≤ 1048576) : FC S 33 [] [] [] [.sl tk (xs.map (.int .i64))] (Int64SL p xs) [] [] := by
 have hl : xs.length ≤ 1048576 := hn
 refine fc_body Try.func33 rfl (by kernel_rfl) (by simp [Try.f33]) fun B => ?_
 simp only [Try.ntmps33, enumD, lst0, Nat.reduceAdd]
 refine sw_bnd 0 rfl fun hb0 => ?_
 simp only [D.bnd, List.length_map] at hb0
 repeat' first | refine sw_seq ?_ | refine sw_block ?_ | refine sw_inBlock ?_ | refine sw_skip ?_ | refine sw_go 0 kp33 fun K hK => ?_ | refine fun (K : KT) (hK : KOk S 0 _ _ _ K) => ?_ | ((first | refine runL_go ?_ | refine sw_ret (ret0 ?_) | refine sw_ret ?_); simp (disch := (refine Om.mk ?_; omega)) only [go_sem, Try.results33]) | (refine hK.nil ?_; clear hK K; simp only [go_sem]) | ((first | refine sw_cond rfl ?_ ?_) <;> intro h <;> try simp (disch := (refine Om.mk ?_; omega)) only [go_sem] at h) | refine sw_exit rfl ?_ | refine sw_loopEnd ?_ | (with_reducible refine And.intro (by first | omega | (simp only [lens]; omega)) ?_) | ((with_reducible refine And.intro ?_ ?_); · first | (intro x hx; subst hx; rfl) | exact upR_mem fun _ _ => rfl | exact mapR_mem fun _ _ => rfl | (intro x; refine And.intro ?_ ?_ <;> (intros; subst_vars; rfl))) | fail
 refine sw_loopU (ι := Nat) (fun i => [(4, .int .i64 i)]) (fun i => [(7, fillL (fun j => .int .i64 (xs.getD j default)) (.int .i64 0) i xs.length)]) (fun i => i ≤ xs.length ∧ (True)) (fun i => xs.length - i) 0 (by (refine covers_mk0 rfl rfl ?_ ?_ ?_ ?_ <;> simp (disch := (refine Om.mk ?_; omega)) only [go_sem] <;> (try omega)); exact fillL_start _ _ _) ⟨by omega, ?_⟩ (fun i ⟨hi, hj⟩ => ?_)
 rotate_left
 simp only [go_sem]
 repeat' first | (refine sw_freezeLabAt 6 3 1 p (xs.map (.int .i64)) rfl rfl (by rw [show i = xs.length by omega]; exact (fillL_done (.int .i64) _ xs).trans (flat_ones _ _ (fun _ => rfl)).symm) (by rw [List.length_map]) (cells_one fun _ => rfl) (fillL_memOk (fun _ => rfl) rfl) hp (by simp) ?_; simp only [go_sem]) | refine sw_seq ?_ | refine sw_block ?_ | refine sw_inBlock ?_ | refine sw_skip ?_ | refine sw_go 0 kp33 fun K hK => ?_ | refine fun (K : KT) (hK : KOk S 0 _ _ _ K) => ?_ | ((first | refine runL_go ?_ | refine sw_ret (ret0 ?_) | refine sw_ret ?_); simp (disch := (refine Om.mk ?_; omega)) only [go_sem, Try.results33]) | (refine hK.nil ?_; clear hK K; simp only [go_sem]) | ((first | refine sw_cond rfl ?_ ?_) <;> intro h <;> try simp (disch := (refine Om.mk ?_; omega)) only [go_sem] at h) | refine sw_exit rfl ?_ | refine sw_loopEnd ?_ | (with_reducible refine And.intro (by first | omega | (simp only [lens]; omega)) ?_) | ((with_reducible refine And.intro ?_ ?_); · first | (intro x hx; subst hx; rfl) | exact upR_mem fun _ _ => rfl | exact mapR_mem fun _ _ => rfl | (intro x; refine And.intro ?_ ?_ <;> (intros; subst_vars; rfl))) | fail
 ·exact ⟨i + 1, (by (refine covers_mk0 rfl rfl ?_ ?_ ?_ ?_ <;> simp (disch := (refine Om.mk ?_; omega)) only [go_sem] <;> (try omega)); exact fillL_set (fun j => .int .i64 (xs.getD j default)) _ _ _), by omega, by omega⟩
 ·trivial
theorem toRuleL_fc (p : List Nat) (hp : p ≠ []) (x : RuleT) (hn : cntRule x ≤ 1048576) : FC S 114 [] [] [] [RuleD x] (RuleL p x) [] [] := by
 have hn' := hn
 simp only [cntRule] at hn'
 refine fc_body Try.func114 rfl (by kernel_rfl) (by simp [Try.f114]) fun B => ?_
 simp only [Try.ntmps114, enumD, lst0, Nat.reduceAdd]
 repeat' first | refine sw_seq ?_ | refine sw_skip ?_ | refine sw_go 0 kp114 fun K hK => ?_ | refine fun (K : KT) (hK : KOk S 0 _ _ _ K) => ?_ | ((first | refine runL_go ?_ | refine sw_ret (ret0 ?_) | refine sw_ret ?_); simp (disch := (refine Om.mk ?_; omega)) only [go_sem, Try.results114]) | (refine hK.nil ?_; clear hK K; simp only [go_sem]) | refine sw_loopEnd ?_ | refine hK.c0 rfl rfl rfl (toInt64SL_fc (p ++ [0]) (by simp) _ (x.l) (by omega)) rfl rfl rfl ?_ | refine hK.c0 rfl rfl rfl (toInt64SL_fc (p ++ [1]) (by simp) _ (x.r) (by omega)) rfl rfl rfl ?_ | (with_reducible refine And.intro (by first | omega | (simp only [lens]; omega)) ?_) | fail
 all_goals exact D.le.refl _
theorem toSigL_fc (p : List Nat) (hp : p ≠ []) (x : List Int) (hn : cntSig x ≤ 1048576) : FC S 19 [] [] [] [SigD x] (SigL p x) [] [] := by
 have hn' := hn
 simp only [cntSig] at hn'
 refine fc_body Try.func19 rfl (by kernel_rfl) (by simp [Try.f19]) fun B => ?_
 simp only [Try.ntmps19, enumD, lst0, Nat.reduceAdd]
 repeat' first | refine sw_seq ?_ | refine sw_skip ?_ | refine sw_go 0 kp19 fun K hK => ?_ | refine fun (K : KT) (hK : KOk S 0 _ _ _ K) => ?_ | ((first | refine runL_go ?_ | refine sw_ret (ret0 ?_) | refine sw_ret ?_); simp (disch := (refine Om.mk ?_; omega)) only [go_sem, Try.results19]) | (refine hK.nil ?_; clear hK K; simp only [go_sem]) | refine sw_loopEnd ?_ | refine hK.c0 rfl rfl rfl (toInt64SL_fc (p ++ [0]) (by simp) _ (x) (by omega)) rfl rfl rfl ?_ | (with_reducible refine And.intro (by first | omega | (simp only [lens]; omega)) ?_) | fail
 all_goals exact D.le.refl _
theorem toRuleSL_fc (p : List Nat) (hp : p ≠ []) (tk : Tk) (xs : List RuleT) (hn : cntRuleS xs ≤ 1048576) : FC S 69 [] [] [] [.sl tk (xs.map RuleD)] (RuleSL p xs) [] [] := by
 have hl : xs.length ≤ 1048576 := by unfold cntRuleS at hn; omega
 have hq : ∀ i < xs.length, cntRule (xs.getD i default) ≤ 1048576 := fun i hi => by
  have := f_le_sum cntRule xs i hi
  unfold cntRuleS at hn; omega
 refine fc_body Try.func69 rfl (by kernel_rfl) (by simp [Try.f69]) fun B => ?_
 simp only [Try.ntmps69, enumD, lst0, Nat.reduceAdd]
 refine sw_bnd 0 rfl fun hb0 => ?_
 simp only [D.bnd, List.length_map] at hb0
 repeat' first | refine sw_seq ?_ | refine sw_block ?_ | refine sw_inBlock ?_ | refine sw_skip ?_ | refine sw_go 0 kp69 fun K hK => ?_ | refine fun (K : KT) (hK : KOk S 0 _ _ _ K) => ?_ | ((first | refine runL_go ?_ | refine sw_ret (ret0 ?_) | refine sw_ret ?_); simp (disch := (refine Om.mk ?_; omega)) only [go_sem, Try.results69]) | (refine hK.nil ?_; clear hK K; simp only [go_sem]) | ((first | refine sw_cond rfl ?_ ?_) <;> intro h <;> try simp (disch := (refine Om.mk ?_; omega)) only [go_sem] at h) | refine sw_exit rfl ?_ | refine sw_loopEnd ?_ | (with_reducible refine And.intro (by first | omega | (simp only [lens]; omega)) ?_) | ((with_reducible refine And.intro ?_ ?_); · first | (intro x hx; subst hx; rfl) | exact upR_mem fun _ _ => rfl | exact mapR_mem fun _ _ => rfl | (intro x; refine And.intro ?_ ?_ <;> (intros; subst_vars; rfl))) | fail
 refine sw_loopU (ι := Nat) (fun i => [(4, .int .i64 i)]) (fun i => [(7, fillF (fun j => [Int64SL ((p ++ [j]) ++ [0]) (((xs.getD j default)).l), Int64SL ((p ++ [j]) ++ [1]) (((xs.getD j default)).r)]) [.sl .nil [], .sl .nil []] i xs.length)]) (fun i => i ≤ xs.length ∧ (True)) (fun i => xs.length - i) 0 (by (refine covers_mk0 rfl rfl ?_ ?_ ?_ ?_ <;> simp (disch := (refine Om.mk ?_; omega)) only [go_sem] <;> (try omega)); exact fillF_start _ _ _) ⟨by omega, ?_⟩ (fun i ⟨hi, hj⟩ => ?_)
 rotate_left
 simp only [go_sem]
 have hm : i * 2 + 2 ≤ 2 * xs.length ∨ xs.length ≤ i := by omega
 repeat' first | (refine sw_freezeLabAt 6 3 2 p (mapR (fun i y => RuleL (p ++ [i]) y) xs) rfl rfl (by rw [show i = xs.length by omega]; exact fillF_doneR (fun i y => RuleL (p ++ [i]) y) _ xs) (by rw [mapR_length]) (mapR_cells fun _ _ => rfl) (fillF_memOk (fun j d hd => by revert d hd; simp [D.memOk]) (by simp [D.memOk])) hp (by simp) ?_; simp only [go_sem]) | refine sw_seq ?_ | refine sw_block ?_ | refine sw_inBlock ?_ | refine sw_skip ?_ | refine sw_go 0 kp69 fun K hK => ?_ | refine fun (K : KT) (hK : KOk S 0 _ _ _ K) => ?_ | ((first | refine runL_go ?_ | refine sw_ret (ret0 ?_) | refine sw_ret ?_); simp (disch := (refine Om.mk ?_; omega)) only [go_sem, Try.results69]) | (refine hK.nil ?_; clear hK K; simp only [go_sem]) | ((first | refine sw_cond rfl ?_ ?_) <;> intro h <;> try simp (disch := (refine Om.mk ?_; omega)) only [go_sem] at h) | refine sw_exit rfl ?_ | refine sw_loopEnd ?_ | refine hK.c0 rfl rfl rfl (toRuleL_fc (p ++ [i]) (by simp) (xs.getD i default) (by exact hq i (by omega))) rfl rfl rfl ?_ | (with_reducible refine And.intro (by first | omega | (simp only [lens]; omega)) ?_) | ((with_reducible refine And.intro ?_ ?_); · first | (intro x hx; subst hx; rfl) | exact upR_mem fun _ _ => rfl | exact mapR_mem fun _ _ => rfl | (intro x; refine And.intro ?_ ?_ <;> (intros; subst_vars; rfl))) | fail
 ·exact ⟨i + 1, (by (refine covers_mk0 rfl rfl ?_ ?_ ?_ ?_ <;> simp (disch := (refine Om.mk ?_; omega)) only [go_sem] <;> (try omega)); exact fillF_put (f := (fun j => [Int64SL ((p ++ [j]) ++ [0]) (((xs.getD j default)).l), Int64SL ((p ++ [j]) ++ [1]) (((xs.getD j default)).r)])) (fun _ => rfl) rfl (by omega)), by omega, by omega⟩
 ·trivial
theorem toSystemL_fc (p : List Nat) (hp : p ≠ []) (x : SystemT) (hn : cntSystem x ≤ 1048576) : FC S 32 [] [] [] [SystemD x] (SystemL p x) [] [] := by
 have hn' := hn
 simp only [cntSystem] at hn'
 refine fc_body Try.func32 rfl (by kernel_rfl) (by simp [Try.f32]) fun B => ?_
 simp only [Try.ntmps32, enumD, lst0, Nat.reduceAdd]
 repeat' first | refine sw_seq ?_ | refine sw_skip ?_ | refine sw_go 0 kp32 fun K hK => ?_ | refine fun (K : KT) (hK : KOk S 0 _ _ _ K) => ?_ | ((first | refine runL_go ?_ | refine sw_ret (ret0 ?_) | refine sw_ret ?_); simp (disch := (refine Om.mk ?_; omega)) only [go_sem, Try.results32]) | (refine hK.nil ?_; clear hK K; simp only [go_sem]) | refine sw_loopEnd ?_ | refine hK.c0 rfl rfl rfl (toSigL_fc p hp (x.sig) (by omega)) rfl rfl rfl ?_ | refine hK.c0 rfl rfl rfl (toRuleSL_fc (p ++ [1]) (by simp) _ (x.rules) (by omega)) rfl rfl rfl ?_ | (with_reducible refine And.intro (by first | omega | (simp only [lens]; omega)) ?_) | fail
 all_goals exact D.le.refl _
end Go.Proofs.Ytlcdahaihlflaaa
end
