/-
  U19, U21, P19, one behind the other.
-/
import Derived.Test.YtlcdahaihlflaaaG10
import Derived.Test.YtlcdahaihlflaaaLgK17
import Derived.Test.YtlcdahaihlflaaaLgK7
import Derived.Test.YtlcdahaihlflaaaLgK10
import Derived.Test.YtlcdahaihlflaaaG9
import Derived.Test.YtlcdahaihlflaaaG8
section
namespace Go.Proofs.Ytlcdahaihlflaaa
open Go Go.Lg
set_option linter.unusedSimpArgs false
set_option linter.unusedVariables false
set_option maxHeartbeats 4000000
attribute [local irreducible] SW runL runQ runG runQG FC Ret1 bD PrU OccP
theorem puL_bDs (f : Nat → Bool) (β : List (List Int)) : (β.map bD).map (D.pu1 f) = β.map bD := by
 rw [List.map_map]
 exact List.map_congr_left fun x _ => by
  show D.pu1 f (bD x) = bD x
  by_cases h : x = []
  ·rw [h, bD_nil]; rfl
  ·rw [bD_some h]; rfl
theorem puL_bools (f : Nat → Bool) (ys : List Bool) : (ys.map D.bool).map (D.pu1 f) = ys.map D.bool := by
 rw [List.map_map]
 exact List.map_congr_left fun x _ => rfl
attribute [go_sem] puL_bDs puL_bools
theorem pop_eq (us : List (List Int)) (m : Nat) : ((us.map fun y => (Tk.any, y)).take m).map intsT = (us.take m).map IntsD := by rw [← List.map_take, List.map_map]; rfl
theorem safe_IntsD (k : Nat) (tk : List Nat) (u : List Int) : (IntsD u).safe k tk = true := scaL_ints u .i64
theorem safe_bD (k : Nat) (tk : List Nat) (u : List Int) : (bD u).safe k tk = true := by
 by_cases h : u = []
 ·rw [h, bD_nil]; rfl
 ·rw [bD_some h]; exact scaL_ints u .i64
def kp175 : List (Nat × List Nat) := [(0, [0, 1, 2]), (1, [0, 1, 2, 7]), (2, [0, 1, 7, 8]), (3, [0, 1, 7, 8, 21]), (4, [0, 1, 7, 8, 9]), (5, [0, 1, 7, 8, 9]), (6, [0, 1, 7, 8, 9, 10]), (7, [0, 1, 7, 8, 9, 10, 36]), (9, [0, 1, 7, 8, 9, 10, 44]), (10, [6]), (11, [0, 1, 7, 8, 9, 10, 75]), (12, [0, 1, 7, 8, 9, 10]), (13, [0, 1, 7, 8, 9, 10]), (8, [0, 1, 7, 8, 9, 10]), (14, [6])]
attribute [go_sem] kp175
theorem l11Occurs_fc (rs : List Int) (β : List (List Int)) (hβ : BOK rs β) (x : Int) (hx : x < 0) (t : List Int) (hT : XT rs t) : FC S 175 [] [(1030, [.ms 1028 48]), (1028, β.map bD)] [] [.box 1030 0, .int .i64 x, .sl .any (t.map (.int .i64))] (.bool (tst (OccP β x t))) [(1030, [.ms 1028 48]), (1028, β.map bD)] [] := by
 have hlb := hβ.1
 refine fc_bodyP Try.func175 rfl (by kernel_rfl) (by simp [Try.f175]) fun B hP => ?_
 simp only [Try.ntmps175, enumD, lst0, Nat.reduceAdd]
 repeat' first | ((refine sw_goB (id := 2) 0 kp175 1 97000 rfl fun K hK => ?_)) | ((refine ⟨_, _, _, rfl, rfl, rfl, ⟨⟨by simp only [Nat.reduceLT], by decide, by decide, by decide⟩, rfl, by simp [D.strip, strip1, D.cells, D.memOk, TyI.size]⟩, (by simp [-List.map_set, LS.clean, D.tks, D.tksL, tksU_ints, tksL_bD]), by simp only [Nat.reduceLT], ?_⟩; simp only [go_sem])) | refine sw_seq ?_ | refine sw_block ?_ | refine sw_inBlock ?_ | refine sw_skip ?_ | refine sw_go 0 kp175 fun K hK => ?_ | refine sw_goT 0 kp175 13 (id := 13) (by kernel_rfl) fun K hK => ?_ | refine fun (K : KT) (hK : KOk S 0 _ _ _ K) => ?_ | refine sw_goD kp175 (by kernel_rfl) fun K hK => ?_ | ((first | refine runL_go ?_ | refine runQ_go ?_ | refine sw_ret (ret0 ?_) | refine sw_ret ?_); simp (disch := (refine Om.mk ?_; omega)) only [go_sem, Try.results175]) | (refine hK.nil ?_; clear hK K; simp only [go_sem]) | ((first | refine runG_fork rfl rfl rfl rfl rfl ?_ ?_ | refine runQG_fork rfl rfl rfl rfl rfl ?_ ?_ | refine sw_cond rfl ?_ ?_) <;> intro h <;> try simp (disch := (refine Om.mk ?_; omega)) only [go_sem] at h) | refine hK.skp rfl rfl ?_ | refine sw_exit rfl ?_ | refine sw_loopEnd ?_ | (refine hK.fork rfl rfl rfl ?_ ?_ <;> intro h <;> try simp (disch := (refine Om.mk ?_; omega)) only [go_sem] at h) | (with_reducible refine And.intro (by first | omega | (simp only [lens]; omega)) ?_) | ((with_reducible refine And.intro ?_ ?_); · first | (intro x hx; subst hx; rfl) | (intro x; refine And.intro ?_ ?_ <;> (intros; subst_vars; rfl))) | fail
 refine sw_loopT (ι := List (List Int) × List Bool) (fun p => [(0, .box 1030 0), (1, .int .i64 x), (7, .ms 16 48), (8, .sl (.own 97000 22 1) (p.1.map IntsD))]) (fun p => [(1030, [.ms 1028 48]), (1028, β.map bD), (16, p.2.map .bool)]) (fun _ => [97000]) (fun p => OccI β x t p.1 p.2 ∧ ∀ u ∈ p.1, XT rs u) (fun p => 2 * unS p.2 + p.1.length) ([t], List.replicate 48 false) (by (refine covers_mk0 rfl rfl ?_ ?_ ?_ ?_ <;> simp (disch := (refine Om.mk ?_; omega)) only [go_sem] <;> (try omega)); rfl) ⟨OccI.start β x t, fun u hu => by rw [List.mem_singleton.1 hu]; exact hT⟩ (fun p hp => ?_)
 obtain ⟨us, s⟩ := p
 obtain ⟨hI, hX⟩ := hp
 dsimp only at hI hX
 have hsz := hI.size
 have hsl := hI.len
 simp only [go_sem]
 by_cases hn : us = []
 ·subst hn
  repeat' first | ((exfalso; omega)) | refine sw_seq ?_ | refine sw_block ?_ | refine sw_inBlock ?_ | refine sw_skip ?_ | refine sw_go 0 kp175 fun K hK => ?_ | refine sw_goT 0 kp175 13 (id := 13) (by kernel_rfl) fun K hK => ?_ | refine fun (K : KT) (hK : KOk S 0 _ _ _ K) => ?_ | refine sw_goD kp175 (by kernel_rfl) fun K hK => ?_ | ((first | refine runL_go ?_ | refine runQ_go ?_ | refine sw_ret (ret0 ?_) | refine sw_ret ?_); simp (disch := (refine Om.mk ?_; omega)) only [go_sem, Try.results175]) | (refine hK.nil ?_; clear hK K; simp only [go_sem]) | ((first | refine runG_fork rfl rfl rfl rfl rfl ?_ ?_ | refine runQG_fork rfl rfl rfl rfl rfl ?_ ?_ | refine sw_cond rfl ?_ ?_) <;> intro h <;> try simp (disch := (refine Om.mk ?_; omega)) only [go_sem] at h) | refine hK.skp rfl rfl ?_ | refine sw_exit rfl ?_ | refine sw_loopEnd ?_ | (refine hK.fork rfl rfl rfl ?_ ?_ <;> intro h <;> try simp (disch := (refine Om.mk ?_; omega)) only [go_sem] at h) | (with_reducible refine And.intro (by first | omega | (simp only [lens]; omega)) ?_) | ((with_reducible refine And.intro ?_ ?_); · first | (intro x hx; subst hx; rfl) | (intro x; refine And.intro ?_ ?_ <;> (intros; subst_vars; rfl))) | fail
  exact hI.done hx
 ·have hup : 0 < us.length := List.length_pos_iff.2 hn
  repeat' first | ((exfalso; omega)) | ((refine sw_goAt (id := 5) 0 kp175 4 rfl fun K hK => ?_)) | refine sw_seq ?_ | refine sw_block ?_ | refine sw_inBlock ?_ | refine sw_skip ?_ | refine sw_go 0 kp175 fun K hK => ?_ | refine sw_goT 0 kp175 13 (id := 13) (by kernel_rfl) fun K hK => ?_ | refine fun (K : KT) (hK : KOk S 0 _ _ _ K) => ?_ | refine sw_goD kp175 (by kernel_rfl) fun K hK => ?_ | ((first | refine runL_go ?_ | refine runQ_go ?_ | refine sw_ret (ret0 ?_) | refine sw_ret ?_); simp (disch := (refine Om.mk ?_; omega)) only [go_sem, Try.results175]) | (refine hK.nil ?_; clear hK K; simp only [go_sem]) | ((first | refine runG_fork rfl rfl rfl rfl rfl ?_ ?_ | refine runQG_fork rfl rfl rfl rfl rfl ?_ ?_ | refine sw_cond rfl ?_ ?_) <;> intro h <;> try simp (disch := (refine Om.mk ?_; omega)) only [go_sem] at h) | refine hK.skp rfl rfl ?_ | refine sw_exit rfl ?_ | refine sw_loopEnd ?_ | (refine hK.fork rfl rfl rfl ?_ ?_ <;> intro h <;> try simp (disch := (refine Om.mk ?_; omega)) only [go_sem] at h) | (with_reducible refine And.intro (by first | omega | (simp only [lens]; omega)) ?_) | ((with_reducible refine And.intro ?_ ?_); · first | (intro x hx; subst hx; rfl) | (intro x; refine And.intro ?_ ?_ <;> (intros; subst_vars; rfl))) | fail
  refine LopsW.popOwn hP (k := 97000) (by simp) (kd := .i64) (m := us.length - 1) (ps := us.map fun y => (.any, y)) (by simp only [go_sem]; rw [List.map_map]; rfl) (by simp only [go_sem]) rfl rfl ⟨by omega, by rw [List.length_map]; omega⟩ (fun p hp => by obtain ⟨y, _, rfl⟩ := List.mem_map.1 hp; rfl) [(0, .box 1030 0), (1, .int .i64 x), (7, .ms 16 48), (9, IntsD (us.getD (us.length - 1) default))] [(1030, [.ms 1028 48]), (1028, β.map bD), (16, s.map .bool)] ?_ ?_ (by simp only [Nat.reduceLT]) (LopsW.nil ?_)
  ·intro p hp
   simp only [List.mem_cons, List.not_mem_nil, or_false] at hp
   rcases hp with rfl | rfl | rfl | rfl
   ·exact ⟨rfl, rfl⟩
   ·exact ⟨rfl, rfl⟩
   ·exact ⟨rfl, rfl⟩
   ·exact ⟨rfl, safe_IntsD _ _ _⟩
  ·intro p hp
   simp only [List.mem_cons, List.not_mem_nil, or_false] at hp
   rcases hp with rfl | rfl | rfl
   ·exact ⟨rfl, fun d hd => by rw [List.mem_singleton.1 hd]; rfl⟩
   ·exact ⟨rfl, fun d hd => by obtain ⟨y, _, rfl⟩ := List.mem_map.1 hd; exact safe_bD _ _ _⟩
   ·exact ⟨rfl, fun d hd => by obtain ⟨y, _, rfl⟩ := List.mem_map.1 hd; rfl⟩
  simp only [pop_eq, go_sem]
  refine fun (K : List Oper → LS → Prop) (hK : KOk S 0 _ _ _ K) => ?_
  have hdec : us = us.take (us.length - 1) ++ [us.getD (us.length - 1) default] := by
   conv => lhs; rw [← List.take_append_drop (us.length - 1) us]
   congr 1
   rw [List.drop_eq_getElem_cons (by omega), List.drop_of_length_le (by omega), List.getD_eq_getElem?_getD, List.getElem?_eq_getElem (by omega)]
   rfl
  have hXu : XT rs (us.getD (us.length - 1) default) := hX _ (by rw [hdec]; simp)
  have hXr : ∀ v ∈ us.take (us.length - 1), XT rs v := fun v hv => hX v (List.mem_of_mem_take hv)
  have hIu : OccI β x t (us.getD (us.length - 1) default :: us.take (us.length - 1)) s := hI.perm (by rw [List.length_cons, List.length_take]; omega) fun v => by
   conv => rhs; rw [hdec]
   simp [or_comm]
  have hrl : (us.take (us.length - 1)).length + 1 = us.length := by rw [List.length_take]; omega
  generalize us.getD (us.length - 1) default = u at *
  generalize us.take (us.length - 1) = ur at *
  repeat' first | refine sw_seq ?_ | refine sw_block ?_ | refine sw_inBlock ?_ | refine sw_skip ?_ | refine sw_go 0 kp175 fun K hK => ?_ | refine sw_goT 0 kp175 13 (id := 13) (by kernel_rfl) fun K hK => ?_ | refine fun (K : KT) (hK : KOk S 0 _ _ _ K) => ?_ | refine sw_goD kp175 (by kernel_rfl) fun K hK => ?_ | ((first | refine runL_go ?_ | refine runQ_go ?_ | refine sw_ret (ret0 ?_) | refine sw_ret ?_); simp (disch := (refine Om.mk ?_; omega)) only [go_sem, Try.results175]) | (refine hK.nil ?_; clear hK K; simp only [go_sem]) | ((first | refine runG_fork rfl rfl rfl rfl rfl ?_ ?_ | refine runQG_fork rfl rfl rfl rfl rfl ?_ ?_ | refine sw_cond rfl ?_ ?_) <;> intro h <;> try simp (disch := (refine Om.mk ?_; omega)) only [go_sem] at h) | refine hK.skp rfl rfl ?_ | refine sw_exit rfl ?_ | refine sw_loopEnd ?_ | (refine hK.fork rfl rfl rfl ?_ ?_ <;> intro h <;> try simp (disch := (refine Om.mk ?_; omega)) only [go_sem] at h) | (with_reducible refine And.intro (by first | omega | (simp only [lens]; omega)) ?_) | ((with_reducible refine And.intro ?_ ?_); · first | (intro x hx; subst hx; rfl) | (intro x; refine And.intro ?_ ?_ <;> (intros; subst_vars; rfl))) | fail
  refine sw_loopT (ι := Nat × List (List Int) × List Bool) (fun q => [(0, .box 1030 0), (1, .int .i64 x), (7, .ms 16 48), (8, .sl (.own 97000 22 1) (q.2.1.map IntsD)), (9, .sl .any (u.map (.int .i64))), (10, .int .i64 q.1)]) (fun q => [(1030, [.ms 1028 48]), (1028, β.map bD), (16, q.2.2.map .bool)]) (fun _ => [97000]) (fun q => (q.1 ≤ u.length ∧ 2 * unS q.2.2 + q.2.1.length ≤ 2 * unS s + ur.length) ∧ OccI β x t (u :: q.2.1) q.2.2 ∧ (∀ v ∈ q.2.1, XT rs v) ∧ PrU β x q.2.2 (u.take q.1)) (fun q => u.length - q.1) (0, ur, s) (by (refine covers_mk0 rfl rfl ?_ ?_ ?_ ?_ <;> simp (disch := (refine Om.mk ?_; omega)) only [go_sem] <;> (try omega))) ⟨⟨Nat.zero_le _, Nat.le_refl _⟩, hIu, hXr, by rw [List.take_zero]; exact PrU.nil β x s⟩ (fun q hq => ?_)
  obtain ⟨i, vs, s'⟩ := q
  obtain ⟨⟨hi, hm⟩, hI', hX', hP'⟩ := hq
  dsimp only at hi hm hI' hX' hP'
  have hsz' := hI'.size
  have hsl' := hI'.len
  rw [List.length_cons] at hsz'
  have hlu := hXu.len
  simp only [go_sem]
  by_cases hil : i < u.length
  ·have hg := hXu.get hil
   have hmi : u.getD i default ∈ u := getD_mem _ _ hil
   by_cases hz : u.getD i default = x
   ·have hf : OccP β x t := hI'.found hx (hz ▸ hmi)
    repeat' first | ((exfalso; omega)) | ((exact absurd hz (by assumption))) | refine sw_seq ?_ | refine sw_block ?_ | refine sw_inBlock ?_ | refine sw_skip ?_ | refine sw_go 0 kp175 fun K hK => ?_ | refine sw_goT 0 kp175 13 (id := 13) (by kernel_rfl) fun K hK => ?_ | refine fun (K : KT) (hK : KOk S 0 _ _ _ K) => ?_ | refine sw_goD kp175 (by kernel_rfl) fun K hK => ?_ | ((first | refine runL_go ?_ | refine runQ_go ?_ | refine sw_ret (ret0 ?_) | refine sw_ret ?_); simp (disch := (refine Om.mk ?_; omega)) only [go_sem, Try.results175]) | (refine hK.nil ?_; clear hK K; simp only [go_sem]) | ((first | refine runG_fork rfl rfl rfl rfl rfl ?_ ?_ | refine runQG_fork rfl rfl rfl rfl rfl ?_ ?_ | refine sw_cond rfl ?_ ?_) <;> intro h <;> try simp (disch := (refine Om.mk ?_; omega)) only [go_sem] at h) | refine hK.skp rfl rfl ?_ | refine sw_exit rfl ?_ | refine sw_loopEnd ?_ | (refine hK.fork rfl rfl rfl ?_ ?_ <;> intro h <;> try simp (disch := (refine Om.mk ?_; omega)) only [go_sem] at h) | (with_reducible refine And.intro (by first | omega | (simp only [lens]; omega)) ?_) | ((with_reducible refine And.intro ?_ ?_); · first | (intro x hx; subst hx; rfl) | (intro x; refine And.intro ?_ ?_ <;> (intros; subst_vars; rfl))) | fail
    all_goals first | exact hf | exact tst_true hf | trace_state
   ·by_cases h0 : 0 ≤ u.getD i default
    ·repeat' first | ((exfalso; omega)) | ((exact absurd (by assumption) hz)) | refine sw_seq ?_ | refine sw_block ?_ | refine sw_inBlock ?_ | refine sw_skip ?_ | refine sw_go 0 kp175 fun K hK => ?_ | refine sw_goT 0 kp175 13 (id := 13) (by kernel_rfl) fun K hK => ?_ | refine fun (K : KT) (hK : KOk S 0 _ _ _ K) => ?_ | refine sw_goD kp175 (by kernel_rfl) fun K hK => ?_ | ((first | refine runL_go ?_ | refine runQ_go ?_ | refine sw_ret (ret0 ?_) | refine sw_ret ?_); simp (disch := (refine Om.mk ?_; omega)) only [go_sem, Try.results175]) | (refine hK.nil ?_; clear hK K; simp only [go_sem]) | ((first | refine runG_fork rfl rfl rfl rfl rfl ?_ ?_ | refine runQG_fork rfl rfl rfl rfl rfl ?_ ?_ | refine sw_cond rfl ?_ ?_) <;> intro h <;> try simp (disch := (refine Om.mk ?_; omega)) only [go_sem] at h) | refine hK.skp rfl rfl ?_ | refine sw_exit rfl ?_ | refine sw_loopEnd ?_ | (refine hK.fork rfl rfl rfl ?_ ?_ <;> intro h <;> try simp (disch := (refine Om.mk ?_; omega)) only [go_sem] at h) | (with_reducible refine And.intro (by first | omega | (simp only [lens]; omega)) ?_) | ((with_reducible refine And.intro ?_ ?_); · first | (intro x hx; subst hx; rfl) | (intro x; refine And.intro ?_ ?_ <;> (intros; subst_vars; rfl))) | fail
     all_goals exact ⟨(i + 1, vs, s'), (by (refine covers_mk0 rfl rfl ?_ ?_ ?_ ?_ <;> simp (disch := (refine Om.mk ?_; omega)) only [go_sem] <;> (try omega))), ⟨⟨by omega, hm⟩, hI', hX', hP'.snoc hil hz fun h => absurd h (by omega)⟩, by omega⟩
    ·have h48 : vIx (u.getD i default) < 48 := by unfold vIx; omega
     by_cases hsn : s'.getD (vIx (u.getD i default)) default = true
     ·repeat' first | ((exfalso; omega)) | ((exact absurd (by assumption) hz)) | ((exfalso; have hx : ¬ s'.getD (-1 - u.getD i default).toNat default = true := (by assumption); exact hx hsn)) | ((exfalso; have hx : s'.getD (-1 - u.getD i default).toNat default = false := (by assumption); exact absurd (hx.symm.trans hsn) (by decide))) | refine sw_seq ?_ | refine sw_block ?_ | refine sw_inBlock ?_ | refine sw_skip ?_ | refine sw_go 0 kp175 fun K hK => ?_ | refine sw_goT 0 kp175 13 (id := 13) (by kernel_rfl) fun K hK => ?_ | refine fun (K : KT) (hK : KOk S 0 _ _ _ K) => ?_ | refine sw_goD kp175 (by kernel_rfl) fun K hK => ?_ | ((first | refine runL_go ?_ | refine runQ_go ?_ | refine sw_ret (ret0 ?_) | refine sw_ret ?_); simp (disch := (refine Om.mk ?_; omega)) only [go_sem, Try.results175]) | (refine hK.nil ?_; clear hK K; simp only [go_sem]) | ((first | refine runG_fork rfl rfl rfl rfl rfl ?_ ?_ | refine runQG_fork rfl rfl rfl rfl rfl ?_ ?_ | refine sw_cond rfl ?_ ?_) <;> intro h <;> try simp (disch := (refine Om.mk ?_; omega)) only [go_sem] at h) | refine hK.skp rfl rfl ?_ | refine sw_exit rfl ?_ | refine sw_loopEnd ?_ | (refine hK.fork rfl rfl rfl ?_ ?_ <;> intro h <;> try simp (disch := (refine Om.mk ?_; omega)) only [go_sem] at h) | (with_reducible refine And.intro (by first | omega | (simp only [lens]; omega)) ?_) | ((with_reducible refine And.intro ?_ ?_); · first | (intro x hx; subst hx; rfl) | (intro x; refine And.intro ?_ ?_ <;> (intros; subst_vars; rfl))) | fail
      all_goals exact ⟨(i + 1, vs, s'), (by (refine covers_mk0 rfl rfl ?_ ?_ ?_ ?_ <;> simp (disch := (refine Om.mk ?_; omega)) only [go_sem] <;> (try omega))), ⟨⟨by omega, hm⟩, hI', hX', hP'.snoc hil hz fun _ => .inl hsn⟩, by omega⟩
     ·have hsf : s'.getD (vIx (u.getD i default)) default = false := by simpa using hsn
      by_cases hb : β.getD (vIx (u.getD i default)) default = []
      ·have hrd : bD (β.getD (-1 - u.getD i default).toNat default) = .sl .nil [] := by rw [show β.getD (-1 - u.getD i default).toNat default = [] from hb]; exact bD_nil
       repeat' first | ((exfalso; omega)) | ((exact absurd (by assumption) hz)) | ((exact absurd (by assumption) hsn)) | ((rw [hrd]; simp only [go_sem])) | refine sw_seq ?_ | refine sw_block ?_ | refine sw_inBlock ?_ | refine sw_skip ?_ | refine sw_go 0 kp175 fun K hK => ?_ | refine sw_goT 0 kp175 13 (id := 13) (by kernel_rfl) fun K hK => ?_ | refine fun (K : KT) (hK : KOk S 0 _ _ _ K) => ?_ | refine sw_goD kp175 (by kernel_rfl) fun K hK => ?_ | ((first | refine runL_go ?_ | refine runQ_go ?_ | refine sw_ret (ret0 ?_) | refine sw_ret ?_); simp (disch := (refine Om.mk ?_; omega)) only [go_sem, Try.results175]) | (refine hK.nil ?_; clear hK K; simp only [go_sem]) | ((first | refine runG_fork rfl rfl rfl rfl rfl ?_ ?_ | refine runQG_fork rfl rfl rfl rfl rfl ?_ ?_ | refine sw_cond rfl ?_ ?_) <;> intro h <;> try simp (disch := (refine Om.mk ?_; omega)) only [go_sem] at h) | refine hK.skp rfl rfl ?_ | refine sw_exit rfl ?_ | refine sw_loopEnd ?_ | (refine hK.fork rfl rfl rfl ?_ ?_ <;> intro h <;> try simp (disch := (refine Om.mk ?_; omega)) only [go_sem] at h) | (with_reducible refine And.intro (by first | omega | (simp only [lens]; omega)) ?_) | ((with_reducible refine And.intro ?_ ?_); · first | (intro x hx; subst hx; rfl) | (intro x; refine And.intro ?_ ?_ <;> (intros; subst_vars; rfl))) | fail
       all_goals exact ⟨(i + 1, vs, s'), (by (refine covers_mk0 rfl rfl ?_ ?_ ?_ ?_ <;> simp (disch := (refine Om.mk ?_; omega)) only [go_sem] <;> (try omega))), ⟨⟨by omega, hm⟩, hI', hX', hP'.snoc hil hz fun _ => .inr hb⟩, by omega⟩
      ·have hrd : bD (β.getD (-1 - u.getD i default).toNat default) = .sl .any ((β.getD (-1 - u.getD i default).toNat default).map (.int .i64)) := bD_some hb
       have hb3 : 0 < (β.getD (-1 - u.getD i default).toNat default).length := List.length_pos_iff.2 hb
       have hpu := hI'.push hmi (by omega) h48 hsf
       have hun := unS_set s' _ (by omega) hsf
       have hset := hP'.mono (i := vIx (u.getD i default)) (by omega)
       repeat' first | ((exfalso; omega)) | ((exact absurd (by assumption) hz)) | ((exact absurd (by assumption) hsn)) | ((rw [hrd]; simp only [go_sem])) | refine sw_seq ?_ | refine sw_block ?_ | refine sw_inBlock ?_ | refine sw_skip ?_ | refine sw_go 0 kp175 fun K hK => ?_ | refine sw_goT 0 kp175 13 (id := 13) (by kernel_rfl) fun K hK => ?_ | refine fun (K : KT) (hK : KOk S 0 _ _ _ K) => ?_ | refine sw_goD kp175 (by kernel_rfl) fun K hK => ?_ | ((first | refine runL_go ?_ | refine runQ_go ?_ | refine sw_ret (ret0 ?_) | refine sw_ret ?_); simp (disch := (refine Om.mk ?_; omega)) only [go_sem, Try.results175]) | (refine hK.nil ?_; clear hK K; simp only [go_sem]) | ((first | refine runG_fork rfl rfl rfl rfl rfl ?_ ?_ | refine runQG_fork rfl rfl rfl rfl rfl ?_ ?_ | refine sw_cond rfl ?_ ?_) <;> intro h <;> try simp (disch := (refine Om.mk ?_; omega)) only [go_sem] at h) | refine hK.skp rfl rfl ?_ | refine sw_exit rfl ?_ | refine sw_loopEnd ?_ | (refine hK.fork rfl rfl rfl ?_ ?_ <;> intro h <;> try simp (disch := (refine Om.mk ?_; omega)) only [go_sem] at h) | (with_reducible refine And.intro (by first | omega | (simp only [lens]; omega)) ?_) | ((with_reducible refine And.intro ?_ ?_); · first | (intro x hx; subst hx; rfl) | (intro x; refine And.intro ?_ ?_ <;> (intros; subst_vars; rfl))) | fail
       exact ⟨(i + 1, vs ++ [β.getD (vIx (u.getD i default)) default], s'.set (vIx (u.getD i default)) true), (by (refine covers_mk0 rfl rfl ?_ ?_ ?_ ?_ <;> simp (disch := (refine Om.mk ?_; omega)) only [go_sem] <;> (try omega)); all_goals first | rfl | (rw [List.map_append]; exact ⟨rfl, by omega⟩)), ⟨⟨by omega, by dsimp only; rw [List.length_append, List.length_singleton]; omega⟩, hpu, (fun v hv => (List.mem_append.1 hv).elim (hX' v) fun h => by rw [List.mem_singleton.1 h]; exact hβ.get hb), hset.snoc hil hz fun _ => .inl ((sn_set (by omega)).2 (.inl rfl))⟩, by dsimp only; omega⟩
  ·have hfin : PrU β x s' u := by
    rw [List.take_of_length_le (by omega)] at hP'
    exact hP'
   repeat' first | ((exfalso; omega)) | refine sw_seq ?_ | refine sw_block ?_ | refine sw_inBlock ?_ | refine sw_skip ?_ | refine sw_go 0 kp175 fun K hK => ?_ | refine sw_goT 0 kp175 13 (id := 13) (by kernel_rfl) fun K hK => ?_ | refine fun (K : KT) (hK : KOk S 0 _ _ _ K) => ?_ | refine sw_goD kp175 (by kernel_rfl) fun K hK => ?_ | ((first | refine runL_go ?_ | refine runQ_go ?_ | refine sw_ret (ret0 ?_) | refine sw_ret ?_); simp (disch := (refine Om.mk ?_; omega)) only [go_sem, Try.results175]) | (refine hK.nil ?_; clear hK K; simp only [go_sem]) | ((first | refine runG_fork rfl rfl rfl rfl rfl ?_ ?_ | refine runQG_fork rfl rfl rfl rfl rfl ?_ ?_ | refine sw_cond rfl ?_ ?_) <;> intro h <;> try simp (disch := (refine Om.mk ?_; omega)) only [go_sem] at h) | refine hK.skp rfl rfl ?_ | refine sw_exit rfl ?_ | refine sw_loopEnd ?_ | (refine hK.fork rfl rfl rfl ?_ ?_ <;> intro h <;> try simp (disch := (refine Om.mk ?_; omega)) only [go_sem] at h) | (with_reducible refine And.intro (by first | omega | (simp only [lens]; omega)) ?_) | ((with_reducible refine And.intro ?_ ?_); · first | (intro x hx; subst hx; rfl) | (intro x; refine And.intro ?_ ?_ <;> (intros; subst_vars; rfl))) | fail
   exact ⟨(vs, s'), (by (refine covers_mk0 rfl rfl ?_ ?_ ?_ ?_ <;> simp (disch := (refine Om.mk ?_; omega)) only [go_sem] <;> (try omega))), ⟨hI'.drop hfin, hX'⟩, by dsimp only; omega⟩
end Go.Proofs.Ytlcdahaihlflaaa
end
section
namespace Go.Proofs.Ytlcdahaihlflaaa
open Go Go.Lg
set_option linter.unusedSimpArgs false
set_option linter.unusedVariables false
set_option maxHeartbeats 4000000
attribute [local irreducible] SW runL runQ runG runQG FC Ret1 bD OccP
theorem bD_set (β : Bds) (i : Nat) {y : List Int} (hy : y ≠ []) : (β.map bD).set i (.sl .any (y.map (.int .i64))) = (β.set i y).map bD := by rw [List.map_set, bD_some hy]
def kp156 : List (Nat × List Nat) := [(0, [1, 2, 3, 4]), (1, [1, 3, 4, 9]), (2, [1, 4, 9, 10]), (3, [1, 4, 9, 10, 19]), (4, [1, 4, 9, 10, 11]), (5, [1, 4, 9, 10, 11, 12]), (6, [1, 4, 9, 10, 11, 12]), (7, [1, 4, 9, 10, 11, 12]), (10, [1, 4, 9, 10, 11, 12, 56]), (11, [1, 4, 9, 10, 11, 12, 70]), (12, [1, 4, 9, 10, 11, 12, 80]), (13, [8]), (14, [1, 4, 9, 10]), (15, [1, 4, 9, 10, 11, 12, 91]), (16, [1, 4, 9, 10, 11, 12, 101]), (17, [8]), (18, [1, 4, 9, 10]), (19, [1, 4, 9, 10, 11, 12, 112]), (20, [8]), (8, [1, 4, 9, 10, 12]), (9, [1, 4, 9, 10]), (21, [8])]
attribute [go_sem] kp156
theorem l11Meet_fc (rs : List Int) (β : List (List Int)) (hβ : BOK rs β) (hA : Acy β) (n : Nat) (a b : List Int) (ha : XT rs a) (hb : XT rs b) (r : Bool) (hr : meetT rs n β [(a, b)] = some r) : FC S 156 [] [(1030, [.ms 1028 48]), (1028, β.map bD)] [] [.agg [.sl .any (rs.map (.int .i64))], .box 1030 0, .sl .any (a.map (.int .i64)), .sl .any (b.map (.int .i64))] (.bool r) [] [] := by
 have hlb := hβ.1
 refine fc_bodyP Try.func156 rfl (by kernel_rfl) (by simp [Try.f156]) fun B hP => ?_
 simp only [Try.ntmps156, enumD, lst0, Nat.reduceAdd]
 refine sw_bnd 1 rfl fun hb1 => ?_
 simp only [D.bnd, List.length_map] at hb1
 repeat' first | ((refine sw_goB (id := 1) 0 kp156 1 51000 rfl fun K hK => ?_)) | ((refine sw_goB (id := 2) 0 kp156 1 56000 rfl fun K hK => ?_)) | ((refine ⟨_, _, _, rfl, rfl, rfl, ⟨⟨by simp only [Nat.reduceLT], by decide, by decide, by decide⟩, rfl, by simp [D.strip, strip1, D.cells, D.memOk, TyI.size]⟩, (by simp [-List.map_set, LS.clean, D.tks, D.tksL, tksU_ints, tksL_bD]), by simp only [Nat.reduceLT], ?_⟩; simp only [go_sem])) | refine sw_seq ?_ | refine sw_block ?_ | refine sw_inBlock ?_ | refine sw_skip ?_ | refine sw_go 0 kp156 fun K hK => ?_ | refine sw_goT 0 kp156 10 (id := 14) (by kernel_rfl) fun K hK => ?_ | refine sw_goT 0 kp156 10 (id := 18) (by kernel_rfl) fun K hK => ?_ | refine fun (K : KT) (hK : KOk S 0 _ _ _ K) => ?_ | refine sw_goD kp156 (by kernel_rfl) fun K hK => ?_ | ((first | refine runL_go ?_ | refine runQ_go ?_ | refine sw_ret (ret0 ?_) | refine sw_ret ?_); simp (disch := (refine Om.mk ?_; omega)) only [go_sem, Try.results156]) | (refine hK.nil ?_; clear hK K; simp only [go_sem]) | ((first | refine runG_fork rfl rfl rfl rfl rfl ?_ ?_ | refine runQG_fork rfl rfl rfl rfl rfl ?_ ?_ | refine sw_cond rfl ?_ ?_) <;> intro h <;> try simp (disch := (refine Om.mk ?_; omega)) only [go_sem] at h) | refine hK.skp rfl rfl ?_ | refine sw_exit rfl ?_ | refine sw_loopEnd ?_ | (refine hK.fork rfl rfl rfl ?_ ?_ <;> intro h <;> try simp (disch := (refine Om.mk ?_; omega)) only [go_sem] at h) | (with_reducible refine And.intro (by first | omega | (simp only [lens]; omega)) ?_) | ((with_reducible refine And.intro ?_ ?_); · first | (intro x hx; subst hx; rfl) | (intro x; refine And.intro ?_ ?_ <;> (intros; subst_vars; rfl))) | fail
 refine sw_loopT (ι := Nat × Bds × List (List Int × List Int)) (fun p => [(1, .box 1030 0), (4, .box 4 0), (9, .sl (.own 51000 22 1) ((p.2.2.map Prod.fst).map IntsD)), (10, .sl (.own 56000 22 1) ((p.2.2.map Prod.snd).map IntsD))]) (fun p => [(1030, [.ms 1028 48]), (1028, p.2.1.map bD), (4, [.sl .any (rs.map (.int .i64))])]) (fun _ => [51000, 56000]) (fun p => meetT rs p.1 p.2.1 p.2.2 = some r ∧ BOK rs p.2.1 ∧ Acy p.2.1 ∧ ∀ q ∈ p.2.2, XT rs q.1 ∧ XT rs q.2) (fun p => p.1) (n, β, [(a, b)]) (by (refine covers_mk0 rfl rfl ?_ ?_ ?_ ?_ <;> simp (disch := (refine Om.mk ?_; omega)) only [go_sem] <;> (try omega))) ⟨hr, hβ, hA, fun q hq => by rw [List.mem_singleton] at hq; subst hq; exact ⟨ha, hb⟩⟩ (fun p hp => ?_)
 obtain ⟨k, γ, ps⟩ := p
 obtain ⟨h1, hγ, hAγ, hX⟩ := hp
 dsimp only at h1 hγ hAγ hX
 have hlg := hγ.1
 rcases k with _ | k
 ·cases h1
 unfold meetT at h1
 have hlen : ps.length ≤ 400000 := by
  by_cases h : 400000 < ps.length
  ·rw [if_pos h] at h1; cases h1
  ·omega
 rw [if_neg (by omega)] at h1
 rcases List.eq_nil_or_concat ps with rfl | ⟨qs, p, rfl⟩
 ·obtain rfl := Option.some.inj h1
  simp only [go_sem]
  repeat' first | ((exfalso; omega)) | refine sw_seq ?_ | refine sw_block ?_ | refine sw_inBlock ?_ | refine sw_skip ?_ | refine sw_go 0 kp156 fun K hK => ?_ | refine sw_goT 0 kp156 10 (id := 14) (by kernel_rfl) fun K hK => ?_ | refine sw_goT 0 kp156 10 (id := 18) (by kernel_rfl) fun K hK => ?_ | refine fun (K : KT) (hK : KOk S 0 _ _ _ K) => ?_ | refine sw_goD kp156 (by kernel_rfl) fun K hK => ?_ | ((first | refine runL_go ?_ | refine runQ_go ?_ | refine sw_ret (ret0 ?_) | refine sw_ret ?_); simp (disch := (refine Om.mk ?_; omega)) only [go_sem, Try.results156]) | (refine hK.nil ?_; clear hK K; simp only [go_sem]) | ((first | refine runG_fork rfl rfl rfl rfl rfl ?_ ?_ | refine runQG_fork rfl rfl rfl rfl rfl ?_ ?_ | refine sw_cond rfl ?_ ?_) <;> intro h <;> try simp (disch := (refine Om.mk ?_; omega)) only [go_sem] at h) | refine hK.skp rfl rfl ?_ | refine sw_exit rfl ?_ | refine sw_loopEnd ?_ | (refine hK.fork rfl rfl rfl ?_ ?_ <;> intro h <;> try simp (disch := (refine Om.mk ?_; omega)) only [go_sem] at h) | (with_reducible refine And.intro (by first | omega | (simp only [lens]; omega)) ?_) | ((with_reducible refine And.intro ?_ ?_); · first | (intro x hx; subst hx; rfl) | (intro x; refine And.intro ?_ ?_ <;> (intros; subst_vars; rfl))) | fail
 ·rw [List.concat_eq_append] at h1 hX hlen ⊢
  obtain ⟨hp1, hp2⟩ := hX p (by simp)
  have hq : ∀ p ∈ qs, XT rs p.1 ∧ XT rs p.2 := fun p hp' => hX p (by simp [hp'])
  obtain ⟨u, u1, u2, u3, u4⟩ := root_top hγ hAγ hp1
  obtain ⟨v, v1, v2, v3, v4⟩ := root_top hγ hAγ hp2
  simp only [List.getLast?_append, List.getLast?_singleton, Option.some_or, u1, v1, List.dropLast_concat] at h1
  rw [List.length_append, List.length_singleton] at hlen
  obtain ⟨us, hus⟩ : ∃ us, us = (qs ++ [p]).map Prod.fst := ⟨_, rfl⟩
  obtain ⟨vs, hvs⟩ : ∃ vs, vs = (qs ++ [p]).map Prod.snd := ⟨_, rfl⟩
  have hul : us.length = qs.length + 1 := by rw [hus]; simp
  have hvl : vs.length = qs.length + 1 := by rw [hvs]; simp
  have hu0 : us.getD (us.length - 1) default = p.1 := by rw [hul, hus]; simp
  have hv0 : vs.getD (vs.length - 1) default = p.2 := by rw [hvl, hvs]; simp
  have hut : us.take (us.length - 1) = qs.map Prod.fst := by rw [hul, hus]; simp
  have hvt : vs.take (vs.length - 1) = qs.map Prod.snd := by rw [hvl, hvs]; simp
  dsimp only
  rw [← hus, ← hvs]
  simp only [go_sem]
  have cH1 := l11Head_fc rs γ hγ 60 (us.getD (us.length - 1) default) u (by rw [hu0]; exact u1) (by rw [hu0]; exact hp1)
  have cH2 := l11Head_fc rs γ hγ 60 (vs.getD (vs.length - 1) default) v (by rw [hv0]; exact v1) (by rw [hv0]; exact hp2)
  repeat' first | ((refine hK.callB rfl rfl rfl (cH1) (by refine ⟨⟨?_, ?_, ?_, ?_, ?_⟩, ⟨?_, ?_, ?_, ?_, ?_⟩, ?_⟩ <;> simp [-List.map_set, LS.getBox, Lg.look, D.ids, D.idsL, idsL_bool, idsL_bD, LS.clean, D.puOk, D.pu, D.pu1, D.tks, D.tksL, tksU_ints, tksL_bool, tksL_bD, puOk_intsU, puOk_bool, puOk_bD, inTok]) ?_; simp (disch := (refine Om.mk ?_; omega)) only [go_sem])) | ((refine hK.callB rfl rfl rfl (cH2) (by refine ⟨⟨?_, ?_, ?_, ?_, ?_⟩, ⟨?_, ?_, ?_, ?_, ?_⟩, ?_⟩ <;> simp [-List.map_set, LS.getBox, Lg.look, D.ids, D.idsL, idsL_bool, idsL_bD, LS.clean, D.puOk, D.pu, D.pu1, D.tks, D.tksL, tksU_ints, tksL_bool, tksL_bD, puOk_intsU, puOk_bool, puOk_bD, inTok]) ?_; simp (disch := (refine Om.mk ?_; omega)) only [go_sem])) | ((exfalso; omega)) | ((refine sw_goAt (id := 6) 0 kp156 4 rfl fun K hK => ?_)) | refine sw_seq ?_ | refine sw_block ?_ | refine sw_inBlock ?_ | refine sw_skip ?_ | refine sw_go 0 kp156 fun K hK => ?_ | refine sw_goT 0 kp156 10 (id := 14) (by kernel_rfl) fun K hK => ?_ | refine sw_goT 0 kp156 10 (id := 18) (by kernel_rfl) fun K hK => ?_ | refine fun (K : KT) (hK : KOk S 0 _ _ _ K) => ?_ | refine sw_goD kp156 (by kernel_rfl) fun K hK => ?_ | ((first | refine runL_go ?_ | refine runQ_go ?_ | refine sw_ret (ret0 ?_) | refine sw_ret ?_); simp (disch := (refine Om.mk ?_; omega)) only [go_sem, Try.results156]) | (refine hK.nil ?_; clear hK K; simp only [go_sem]) | ((first | refine runG_fork rfl rfl rfl rfl rfl ?_ ?_ | refine runQG_fork rfl rfl rfl rfl rfl ?_ ?_ | refine sw_cond rfl ?_ ?_) <;> intro h <;> try simp (disch := (refine Om.mk ?_; omega)) only [go_sem] at h) | refine hK.skp rfl rfl ?_ | refine sw_exit rfl ?_ | refine sw_loopEnd ?_ | (refine hK.fork rfl rfl rfl ?_ ?_ <;> intro h <;> try simp (disch := (refine Om.mk ?_; omega)) only [go_sem] at h) | (with_reducible refine And.intro (by first | omega | (simp only [lens]; omega)) ?_) | ((with_reducible refine And.intro ?_ ?_); · first | (intro x hx; subst hx; rfl) | (intro x; refine And.intro ?_ ?_ <;> (intros; subst_vars; rfl))) | fail
  refine LopsW.popOwn hP (k := 51000) (by simp) (kd := .i64) (m := us.length - 1) (ps := us.map fun y => (.any, y)) (by simp only [go_sem]; rw [List.map_map]; rfl) (by simp only [go_sem]) rfl rfl ⟨by omega, by rw [List.length_map]; omega⟩ (fun p hp => by obtain ⟨y, _, rfl⟩ := List.mem_map.1 hp; rfl) [(1, .box 1030 0), (4, .box 4 0), (10, .sl (.own 56000 22 1) (vs.map IntsD)), (11, .sl .any (u.map (.int .i64))), (12, .sl .any (v.map (.int .i64)))] [(1030, [.ms 1028 48]), (1028, γ.map bD), (4, [.sl .any (rs.map (.int .i64))])] ?_ ?_ (by simp only [Nat.reduceLT]) (LopsW.nil ?_)
  ·intro p hp
   simp only [List.mem_cons, List.not_mem_nil, or_false] at hp
   rcases hp with rfl | rfl | rfl | rfl | rfl
   ·exact ⟨rfl, rfl⟩
   ·exact ⟨rfl, rfl⟩
   ·exact ⟨rfl, by simp only [D.safe, List.contains_cons]; exact Bool.and_eq_true_iff.2 ⟨rfl, safeL_of fun d hd => by obtain ⟨y, _, rfl⟩ := List.mem_map.1 hd; exact safe_IntsD _ _ _⟩⟩
   ·exact ⟨rfl, safe_IntsD _ _ _⟩
   ·exact ⟨rfl, safe_IntsD _ _ _⟩
  ·intro p hp
   simp only [List.mem_cons, List.not_mem_nil, or_false] at hp
   rcases hp with rfl | rfl | rfl
   ·exact ⟨rfl, fun d hd => by rw [List.mem_singleton.1 hd]; rfl⟩
   ·exact ⟨rfl, fun d hd => by obtain ⟨y, _, rfl⟩ := List.mem_map.1 hd; exact safe_bD _ _ _⟩
   ·exact ⟨rfl, fun d hd => by rw [List.mem_singleton.1 hd]; exact safe_IntsD _ _ rs⟩
  simp only [pop_eq, go_sem]
  refine fun (K : List Oper → LS → Prop) (hK : KOk S 0 _ _ _ K) => ?_
  repeat' first | ((exfalso; omega)) | ((refine sw_goAt (id := 7) 0 kp156 4 rfl fun K hK => ?_)) | refine sw_seq ?_ | refine sw_block ?_ | refine sw_inBlock ?_ | refine sw_skip ?_ | refine sw_go 0 kp156 fun K hK => ?_ | refine sw_goT 0 kp156 10 (id := 14) (by kernel_rfl) fun K hK => ?_ | refine sw_goT 0 kp156 10 (id := 18) (by kernel_rfl) fun K hK => ?_ | refine fun (K : KT) (hK : KOk S 0 _ _ _ K) => ?_ | refine sw_goD kp156 (by kernel_rfl) fun K hK => ?_ | ((first | refine runL_go ?_ | refine runQ_go ?_ | refine sw_ret (ret0 ?_) | refine sw_ret ?_); simp (disch := (refine Om.mk ?_; omega)) only [go_sem, Try.results156]) | (refine hK.nil ?_; clear hK K; simp only [go_sem]) | ((first | refine runG_fork rfl rfl rfl rfl rfl ?_ ?_ | refine runQG_fork rfl rfl rfl rfl rfl ?_ ?_ | refine sw_cond rfl ?_ ?_) <;> intro h <;> try simp (disch := (refine Om.mk ?_; omega)) only [go_sem] at h) | refine hK.skp rfl rfl ?_ | refine sw_exit rfl ?_ | refine sw_loopEnd ?_ | (refine hK.fork rfl rfl rfl ?_ ?_ <;> intro h <;> try simp (disch := (refine Om.mk ?_; omega)) only [go_sem] at h) | (with_reducible refine And.intro (by first | omega | (simp only [lens]; omega)) ?_) | ((with_reducible refine And.intro ?_ ?_); · first | (intro x hx; subst hx; rfl) | (intro x; refine And.intro ?_ ?_ <;> (intros; subst_vars; rfl))) | fail
  refine LopsW.popOwn hP (k := 56000) (by simp) (kd := .i64) (m := vs.length - 1) (ps := vs.map fun y => (.any, y)) (by simp only [go_sem]; rw [List.map_map]; rfl) (by simp only [go_sem]) rfl rfl ⟨by omega, by rw [List.length_map]; omega⟩ (fun p hp => by obtain ⟨y, _, rfl⟩ := List.mem_map.1 hp; rfl) [(1, .box 1030 0), (4, .box 4 0), (9, .sl (.own 51000 22 1) ((us.take (us.length - 1)).map IntsD)), (11, .sl .any (u.map (.int .i64))), (12, .sl .any (v.map (.int .i64)))] [(1030, [.ms 1028 48]), (1028, γ.map bD), (4, [.sl .any (rs.map (.int .i64))])] ?_ ?_ (by simp only [Nat.reduceLT]) (LopsW.nil ?_)
  ·intro p hp
   simp only [List.mem_cons, List.not_mem_nil, or_false] at hp
   rcases hp with rfl | rfl | rfl | rfl | rfl
   ·exact ⟨rfl, rfl⟩
   ·exact ⟨rfl, rfl⟩
   ·exact ⟨rfl, by simp only [D.safe, List.contains_cons]; exact Bool.and_eq_true_iff.2 ⟨rfl, safeL_of fun d hd => by obtain ⟨y, _, rfl⟩ := List.mem_map.1 hd; exact safe_IntsD _ _ _⟩⟩
   ·exact ⟨rfl, safe_IntsD _ _ _⟩
   ·exact ⟨rfl, safe_IntsD _ _ _⟩
  ·intro p hp
   simp only [List.mem_cons, List.not_mem_nil, or_false] at hp
   rcases hp with rfl | rfl | rfl
   ·exact ⟨rfl, fun d hd => by rw [List.mem_singleton.1 hd]; rfl⟩
   ·exact ⟨rfl, fun d hd => by obtain ⟨y, _, rfl⟩ := List.mem_map.1 hd; exact safe_bD _ _ _⟩
   ·exact ⟨rfl, fun d hd => by rw [List.mem_singleton.1 hd]; exact safe_IntsD _ _ rs⟩
  simp only [pop_eq, go_sem]
  refine fun (K : List Oper → LS → Prop) (hK : KOk S 0 _ _ _ K) => ?_
  rw [hut, hvt]
  have hgu := u2.get (a := 0) (by have := u2.len; omega)
  have hgv := v2.get (a := 0) (by have := v2.len; omega)
  have hlu := u2.len
  have hlv := v2.len
  have hiu : u.getD 0 default < 0 → vIx (u.getD 0 default) < 48 := fun h => vIx_lt hgu.1 h
  have hiv : v.getD 0 default < 0 → vIx (v.getD 0 default) < 48 := fun h => vIx_lt hgv.1 h
  have eu : hd u = u.getD 0 default := rfl
  have ev : hd v = v.getD 0 default := rfl
  rw [eu, ev] at h1
  rw [eu] at u3
  rw [ev] at v3
  clear u1 v1 u4 v4 hu0 hv0 cH1 cH2 hX hus hvs hul hvl hut hvt eu ev
  by_cases c1 : u.getD 0 default = v.getD 0 default ∧ u.getD 0 default < 0
  ·rw [if_pos c1] at h1
   obtain ⟨c5, c6⟩ := c1
   repeat' first | ((exfalso; omega)) | ((exact absurd c5 (by assumption))) | refine sw_seq ?_ | refine sw_block ?_ | refine sw_inBlock ?_ | refine sw_skip ?_ | refine sw_go 0 kp156 fun K hK => ?_ | refine sw_goT 0 kp156 10 (id := 14) (by kernel_rfl) fun K hK => ?_ | refine sw_goT 0 kp156 10 (id := 18) (by kernel_rfl) fun K hK => ?_ | refine fun (K : KT) (hK : KOk S 0 _ _ _ K) => ?_ | refine sw_goD kp156 (by kernel_rfl) fun K hK => ?_ | ((first | refine runL_go ?_ | refine runQ_go ?_ | refine sw_ret (ret0 ?_) | refine sw_ret ?_); simp (disch := (refine Om.mk ?_; omega)) only [go_sem, Try.results156]) | (refine hK.nil ?_; clear hK K; simp only [go_sem]) | ((first | refine runG_fork rfl rfl rfl rfl rfl ?_ ?_ | refine runQG_fork rfl rfl rfl rfl rfl ?_ ?_ | refine sw_cond rfl ?_ ?_) <;> intro h <;> try simp (disch := (refine Om.mk ?_; omega)) only [go_sem] at h) | refine hK.skp rfl rfl ?_ | refine sw_exit rfl ?_ | refine sw_loopEnd ?_ | (refine hK.fork rfl rfl rfl ?_ ?_ <;> intro h <;> try simp (disch := (refine Om.mk ?_; omega)) only [go_sem] at h) | (with_reducible refine And.intro (by first | omega | (simp only [lens]; omega)) ?_) | ((with_reducible refine And.intro ?_ ?_); · first | (intro x hx; subst hx; rfl) | (intro x; refine And.intro ?_ ?_ <;> (intros; subst_vars; rfl))) | fail
   all_goals exact ⟨(k, γ, qs), (by (refine covers_mk0 rfl rfl ?_ ?_ ?_ ?_ <;> simp (disch := (refine Om.mk ?_; omega)) only [go_sem] <;> (try omega)); all_goals simp), ⟨h1, hγ, hAγ, hq⟩, by simp⟩
  rw [if_neg c1] at h1
  by_cases c2 : u.getD 0 default < 0
  ·rw [if_pos c2] at h1
   have c7 : ¬ u.getD 0 default = v.getD 0 default := fun e => c1 ⟨e, c2⟩
   have cO := l11Occurs_fc rs γ hγ (u.getD 0 default) c2 v v2
   have hi := hiu c2
   by_cases ho : OccP γ (u.getD 0 default) v
   ·rw [if_pos (tst_true ho)] at h1
    obtain rfl := Option.some.inj h1
    rw [tst_true ho] at cO
    repeat' first | ((refine hK.callB rfl rfl rfl (cO) (by refine ⟨⟨?_, ?_, ?_, ?_, ?_⟩, ⟨?_, ?_, ?_, ?_, ?_⟩, ?_⟩ <;> simp [-List.map_set, LS.getBox, Lg.look, D.ids, D.idsL, idsL_bool, idsL_bD, LS.clean, D.puOk, D.pu, D.pu1, D.tks, D.tksL, tksU_ints, tksL_bool, tksL_bD, puOk_intsU, puOk_bool, puOk_bD, inTok]) ?_; simp (disch := (refine Om.mk ?_; omega)) only [go_sem])) | ((exfalso; omega)) | ((exact absurd (by assumption) c7)) | refine sw_seq ?_ | refine sw_block ?_ | refine sw_inBlock ?_ | refine sw_skip ?_ | refine sw_go 0 kp156 fun K hK => ?_ | refine sw_goT 0 kp156 10 (id := 14) (by kernel_rfl) fun K hK => ?_ | refine sw_goT 0 kp156 10 (id := 18) (by kernel_rfl) fun K hK => ?_ | refine fun (K : KT) (hK : KOk S 0 _ _ _ K) => ?_ | refine sw_goD kp156 (by kernel_rfl) fun K hK => ?_ | ((first | refine runL_go ?_ | refine runQ_go ?_ | refine sw_ret (ret0 ?_) | refine sw_ret ?_); simp (disch := (refine Om.mk ?_; omega)) only [go_sem, Try.results156]) | (refine hK.nil ?_; clear hK K; simp only [go_sem]) | ((first | refine runG_fork rfl rfl rfl rfl rfl ?_ ?_ | refine runQG_fork rfl rfl rfl rfl rfl ?_ ?_ | refine sw_cond rfl ?_ ?_) <;> intro h <;> try simp (disch := (refine Om.mk ?_; omega)) only [go_sem] at h) | refine hK.skp rfl rfl ?_ | refine sw_exit rfl ?_ | refine sw_loopEnd ?_ | (refine hK.fork rfl rfl rfl ?_ ?_ <;> intro h <;> try simp (disch := (refine Om.mk ?_; omega)) only [go_sem] at h) | (with_reducible refine And.intro (by first | omega | (simp only [lens]; omega)) ?_) | ((with_reducible refine And.intro ?_ ?_); · first | (intro x hx; subst hx; rfl) | (intro x; refine And.intro ?_ ?_ <;> (intros; subst_vars; rfl))) | fail
   ·rw [if_neg (by rw [tst_false ho]; simp)] at h1
    rw [tst_false ho] at cO
    obtain ⟨b1, b2, b3, _⟩ := bind_unif hγ hAγ u2 v2 c2 (u3 c2) ho fun _ => True
    repeat' first | ((refine hK.callB rfl rfl rfl (cO) (by refine ⟨⟨?_, ?_, ?_, ?_, ?_⟩, ⟨?_, ?_, ?_, ?_, ?_⟩, ?_⟩ <;> simp [-List.map_set, LS.getBox, Lg.look, D.ids, D.idsL, idsL_bool, idsL_bD, LS.clean, D.puOk, D.pu, D.pu1, D.tks, D.tksL, tksU_ints, tksL_bool, tksL_bD, puOk_intsU, puOk_bool, puOk_bD, inTok]) ?_; simp (disch := (refine Om.mk ?_; omega)) only [go_sem])) | ((exfalso; omega)) | ((exact absurd (by assumption) c7)) | refine sw_seq ?_ | refine sw_block ?_ | refine sw_inBlock ?_ | refine sw_skip ?_ | refine sw_go 0 kp156 fun K hK => ?_ | refine sw_goT 0 kp156 10 (id := 14) (by kernel_rfl) fun K hK => ?_ | refine sw_goT 0 kp156 10 (id := 18) (by kernel_rfl) fun K hK => ?_ | refine fun (K : KT) (hK : KOk S 0 _ _ _ K) => ?_ | refine sw_goD kp156 (by kernel_rfl) fun K hK => ?_ | ((first | refine runL_go ?_ | refine runQ_go ?_ | refine sw_ret (ret0 ?_) | refine sw_ret ?_); simp (disch := (refine Om.mk ?_; omega)) only [go_sem, Try.results156]) | (refine hK.nil ?_; clear hK K; simp only [go_sem]) | ((first | refine runG_fork rfl rfl rfl rfl rfl ?_ ?_ | refine runQG_fork rfl rfl rfl rfl rfl ?_ ?_ | refine sw_cond rfl ?_ ?_) <;> intro h <;> try simp (disch := (refine Om.mk ?_; omega)) only [go_sem] at h) | refine hK.skp rfl rfl ?_ | refine sw_exit rfl ?_ | refine sw_loopEnd ?_ | (refine hK.fork rfl rfl rfl ?_ ?_ <;> intro h <;> try simp (disch := (refine Om.mk ?_; omega)) only [go_sem] at h) | (with_reducible refine And.intro (by first | omega | (simp only [lens]; omega)) ?_) | ((with_reducible refine And.intro ?_ ?_); · first | (intro x hx; subst hx; rfl) | (intro x; refine And.intro ?_ ?_ <;> (intros; subst_vars; rfl))) | fail
    exact ⟨(k, γ.set (vIx (u.getD 0 default)) v, qs), (by (refine covers_mk0 rfl rfl ?_ ?_ ?_ ?_ <;> simp (disch := (refine Om.mk ?_; omega)) only [go_sem] <;> (try omega)); all_goals first | exact bD_set γ _ v2.ne | (simp; done) | trace_state), ⟨h1, b1, b2, hq⟩, by simp⟩
  rw [if_neg c2] at h1
  by_cases c3 : v.getD 0 default < 0
  ·rw [if_pos c3] at h1
   have c7 : ¬ u.getD 0 default = v.getD 0 default := fun e => c2 (e ▸ c3)
   have cO := l11Occurs_fc rs γ hγ (v.getD 0 default) c3 u u2
   have hi := hiv c3
   by_cases ho : OccP γ (v.getD 0 default) u
   ·rw [if_pos (tst_true ho)] at h1
    obtain rfl := Option.some.inj h1
    rw [tst_true ho] at cO
    repeat' first | ((refine hK.callB rfl rfl rfl (cO) (by refine ⟨⟨?_, ?_, ?_, ?_, ?_⟩, ⟨?_, ?_, ?_, ?_, ?_⟩, ?_⟩ <;> simp [-List.map_set, LS.getBox, Lg.look, D.ids, D.idsL, idsL_bool, idsL_bD, LS.clean, D.puOk, D.pu, D.pu1, D.tks, D.tksL, tksU_ints, tksL_bool, tksL_bD, puOk_intsU, puOk_bool, puOk_bD, inTok]) ?_; simp (disch := (refine Om.mk ?_; omega)) only [go_sem])) | ((exfalso; omega)) | ((exact absurd (by assumption) c7)) | refine sw_seq ?_ | refine sw_block ?_ | refine sw_inBlock ?_ | refine sw_skip ?_ | refine sw_go 0 kp156 fun K hK => ?_ | refine sw_goT 0 kp156 10 (id := 14) (by kernel_rfl) fun K hK => ?_ | refine sw_goT 0 kp156 10 (id := 18) (by kernel_rfl) fun K hK => ?_ | refine fun (K : KT) (hK : KOk S 0 _ _ _ K) => ?_ | refine sw_goD kp156 (by kernel_rfl) fun K hK => ?_ | ((first | refine runL_go ?_ | refine runQ_go ?_ | refine sw_ret (ret0 ?_) | refine sw_ret ?_); simp (disch := (refine Om.mk ?_; omega)) only [go_sem, Try.results156]) | (refine hK.nil ?_; clear hK K; simp only [go_sem]) | ((first | refine runG_fork rfl rfl rfl rfl rfl ?_ ?_ | refine runQG_fork rfl rfl rfl rfl rfl ?_ ?_ | refine sw_cond rfl ?_ ?_) <;> intro h <;> try simp (disch := (refine Om.mk ?_; omega)) only [go_sem] at h) | refine hK.skp rfl rfl ?_ | refine sw_exit rfl ?_ | refine sw_loopEnd ?_ | (refine hK.fork rfl rfl rfl ?_ ?_ <;> intro h <;> try simp (disch := (refine Om.mk ?_; omega)) only [go_sem] at h) | (with_reducible refine And.intro (by first | omega | (simp only [lens]; omega)) ?_) | ((with_reducible refine And.intro ?_ ?_); · first | (intro x hx; subst hx; rfl) | (intro x; refine And.intro ?_ ?_ <;> (intros; subst_vars; rfl))) | fail
   ·rw [if_neg (by rw [tst_false ho]; simp)] at h1
    rw [tst_false ho] at cO
    obtain ⟨b1, b2, b3, _⟩ := bind_unif hγ hAγ v2 u2 c3 (v3 c3) ho fun _ => True
    repeat' first | ((refine hK.callB rfl rfl rfl (cO) (by refine ⟨⟨?_, ?_, ?_, ?_, ?_⟩, ⟨?_, ?_, ?_, ?_, ?_⟩, ?_⟩ <;> simp [-List.map_set, LS.getBox, Lg.look, D.ids, D.idsL, idsL_bool, idsL_bD, LS.clean, D.puOk, D.pu, D.pu1, D.tks, D.tksL, tksU_ints, tksL_bool, tksL_bD, puOk_intsU, puOk_bool, puOk_bD, inTok]) ?_; simp (disch := (refine Om.mk ?_; omega)) only [go_sem])) | ((exfalso; omega)) | ((exact absurd (by assumption) c7)) | refine sw_seq ?_ | refine sw_block ?_ | refine sw_inBlock ?_ | refine sw_skip ?_ | refine sw_go 0 kp156 fun K hK => ?_ | refine sw_goT 0 kp156 10 (id := 14) (by kernel_rfl) fun K hK => ?_ | refine sw_goT 0 kp156 10 (id := 18) (by kernel_rfl) fun K hK => ?_ | refine fun (K : KT) (hK : KOk S 0 _ _ _ K) => ?_ | refine sw_goD kp156 (by kernel_rfl) fun K hK => ?_ | ((first | refine runL_go ?_ | refine runQ_go ?_ | refine sw_ret (ret0 ?_) | refine sw_ret ?_); simp (disch := (refine Om.mk ?_; omega)) only [go_sem, Try.results156]) | (refine hK.nil ?_; clear hK K; simp only [go_sem]) | ((first | refine runG_fork rfl rfl rfl rfl rfl ?_ ?_ | refine runQG_fork rfl rfl rfl rfl rfl ?_ ?_ | refine sw_cond rfl ?_ ?_) <;> intro h <;> try simp (disch := (refine Om.mk ?_; omega)) only [go_sem] at h) | refine hK.skp rfl rfl ?_ | refine sw_exit rfl ?_ | refine sw_loopEnd ?_ | (refine hK.fork rfl rfl rfl ?_ ?_ <;> intro h <;> try simp (disch := (refine Om.mk ?_; omega)) only [go_sem] at h) | (with_reducible refine And.intro (by first | omega | (simp only [lens]; omega)) ?_) | ((with_reducible refine And.intro ?_ ?_); · first | (intro x hx; subst hx; rfl) | (intro x; refine And.intro ?_ ?_ <;> (intros; subst_vars; rfl))) | fail
    exact ⟨(k, γ.set (vIx (v.getD 0 default)) u, qs), (by (refine covers_mk0 rfl rfl ?_ ?_ ?_ ?_ <;> simp (disch := (refine Om.mk ?_; omega)) only [go_sem] <;> (try omega)); all_goals first | exact bD_set γ _ u2.ne | (simp; done) | trace_state), ⟨h1, b1, b2, hq⟩, by simp⟩
  rw [if_neg c3] at h1
  by_cases c4 : u.getD 0 default = v.getD 0 default
  ·rw [if_neg (by simpa using c4)] at h1
   have cP1 := l13PartsX_fc rs u u2 (by show 0 ≤ u.getD 0 default; omega)
   have cP2 := l13PartsX_fc rs v v2 (by show 0 ≤ v.getD 0 default; omega)
   have e1 := pairs_fst rs u v
   have e2 := pairs_snd u2 v2 c4
   have e3 : (qs ++ pairsX rs u v).map Prod.fst = qs.map Prod.fst ++ partsX rs u := by rw [List.map_append]; exact congrArg _ e1
   have e4 : (qs ++ pairsX rs u v).map Prod.snd = qs.map Prod.snd ++ partsX rs v := by rw [List.map_append]; exact congrArg _ e2
   have hl3 := pairs_three (v := v) u2
   have hl4 : (partsX rs u).length ≤ 3 := by rw [← e1, List.length_map]; exact hl3
   have hl5 : (partsX rs v).length ≤ 3 := by rw [← e2, List.length_map]; exact hl3
   repeat' first | ((refine hK.callB rfl rfl rfl (cP1) (by refine ⟨⟨?_, ?_, ?_, ?_, ?_⟩, ⟨?_, ?_, ?_, ?_, ?_⟩, ?_⟩ <;> simp [-List.map_set, LS.getBox, Lg.look, D.ids, D.idsL, idsL_bool, idsL_bD, LS.clean, D.puOk, D.pu, D.pu1, D.tks, D.tksL, tksU_ints, tksL_bool, tksL_bD, puOk_intsU, puOk_bool, puOk_bD, inTok]) ?_; simp (disch := (refine Om.mk ?_; omega)) only [go_sem])) | ((refine hK.callB rfl rfl rfl (cP2) (by refine ⟨⟨?_, ?_, ?_, ?_, ?_⟩, ⟨?_, ?_, ?_, ?_, ?_⟩, ?_⟩ <;> simp [-List.map_set, LS.getBox, Lg.look, D.ids, D.idsL, idsL_bool, idsL_bD, LS.clean, D.puOk, D.pu, D.pu1, D.tks, D.tksL, tksU_ints, tksL_bool, tksL_bD, puOk_intsU, puOk_bool, puOk_bD, inTok]) ?_; simp (disch := (refine Om.mk ?_; omega)) only [go_sem])) | ((exfalso; omega)) | ((exact absurd c4 (by assumption))) | ((refine ⟨List.mem_filter.2 ⟨by simp, by simp⟩, by omega, by omega, ?_⟩)) | refine sw_seq ?_ | refine sw_block ?_ | refine sw_inBlock ?_ | refine sw_skip ?_ | refine sw_go 0 kp156 fun K hK => ?_ | refine sw_goT 0 kp156 10 (id := 14) (by kernel_rfl) fun K hK => ?_ | refine sw_goT 0 kp156 10 (id := 18) (by kernel_rfl) fun K hK => ?_ | refine fun (K : KT) (hK : KOk S 0 _ _ _ K) => ?_ | refine sw_goD kp156 (by kernel_rfl) fun K hK => ?_ | ((first | refine runL_go ?_ | refine runQ_go ?_ | refine sw_ret (ret0 ?_) | refine sw_ret ?_); simp (disch := (refine Om.mk ?_; omega)) only [go_sem, Try.results156]) | (refine hK.nil ?_; clear hK K; simp only [go_sem]) | ((first | refine runG_fork rfl rfl rfl rfl rfl ?_ ?_ | refine runQG_fork rfl rfl rfl rfl rfl ?_ ?_ | refine sw_cond rfl ?_ ?_) <;> intro h <;> try simp (disch := (refine Om.mk ?_; omega)) only [go_sem] at h) | refine hK.skp rfl rfl ?_ | refine sw_exit rfl ?_ | refine sw_loopEnd ?_ | (refine hK.fork rfl rfl rfl ?_ ?_ <;> intro h <;> try simp (disch := (refine Om.mk ?_; omega)) only [go_sem] at h) | (with_reducible refine And.intro (by first | omega | (simp only [lens]; omega)) ?_) | ((with_reducible refine And.intro ?_ ?_); · first | (intro x hx; subst hx; rfl) | (intro x; refine And.intro ?_ ?_ <;> (intros; subst_vars; rfl))) | fail
   refine ⟨(k, γ, qs ++ pairsX rs u v), ?_, ⟨h1, hγ, hAγ, fun q hq' => (List.mem_append.1 hq').elim (hq q) fun h => pairsX_ok u2 v2 c4 q h⟩, by simp⟩
   dsimp only
   rw [e3, e4]
   (refine covers_mk0 rfl rfl ?_ ?_ ?_ ?_ <;> simp (disch := (refine Om.mk ?_; omega)) only [go_sem] <;> (try omega))
   all_goals first | (simp; done) | trace_state
  ·rw [if_pos c4] at h1
   obtain rfl := Option.some.inj h1
   repeat' first | ((exfalso; omega)) | ((exact absurd (by assumption) c4)) | refine sw_seq ?_ | refine sw_block ?_ | refine sw_inBlock ?_ | refine sw_skip ?_ | refine sw_go 0 kp156 fun K hK => ?_ | refine sw_goT 0 kp156 10 (id := 14) (by kernel_rfl) fun K hK => ?_ | refine sw_goT 0 kp156 10 (id := 18) (by kernel_rfl) fun K hK => ?_ | refine fun (K : KT) (hK : KOk S 0 _ _ _ K) => ?_ | refine sw_goD kp156 (by kernel_rfl) fun K hK => ?_ | ((first | refine runL_go ?_ | refine runQ_go ?_ | refine sw_ret (ret0 ?_) | refine sw_ret ?_); simp (disch := (refine Om.mk ?_; omega)) only [go_sem, Try.results156]) | (refine hK.nil ?_; clear hK K; simp only [go_sem]) | ((first | refine runG_fork rfl rfl rfl rfl rfl ?_ ?_ | refine runQG_fork rfl rfl rfl rfl rfl ?_ ?_ | refine sw_cond rfl ?_ ?_) <;> intro h <;> try simp (disch := (refine Om.mk ?_; omega)) only [go_sem] at h) | refine hK.skp rfl rfl ?_ | refine sw_exit rfl ?_ | refine sw_loopEnd ?_ | (refine hK.fork rfl rfl rfl ?_ ?_ <;> intro h <;> try simp (disch := (refine Om.mk ?_; omega)) only [go_sem] at h) | (with_reducible refine And.intro (by first | omega | (simp only [lens]; omega)) ?_) | ((with_reducible refine And.intro ?_ ?_); · first | (intro x hx; subst hx; rfl) | (intro x; refine And.intro ?_ ?_ <;> (intros; subst_vars; rfl))) | fail
end Go.Proofs.Ytlcdahaihlflaaa
end
section
namespace Go.Proofs.Ytlcdahaihlflaaa
open Go Go.Lg
set_option linter.unusedSimpArgs false
set_option linter.unusedVariables false
set_option maxHeartbeats 4000000
attribute [local irreducible] SW runL runQ runG runQG FC Ret1
theorem away_snoc {t : List Int} {i : Nat} (h : i < t.length) : awayL (t.take (i + 1)) = awayL (t.take i) ++ [awF (t.getD i default)] := by
 have e : t.take (i + 1) = t.take i ++ [t.getD i default] := by
  rw [List.take_add_one, List.getElem?_eq_getElem h, List.getD_eq_getElem?_getD, List.getElem?_eq_getElem h]
  rfl
 rw [e]; unfold awayL; rw [List.map_append]; rfl
theorem awayL_len (t : List Int) : (awayL t).length = t.length := List.length_map _
theorem awF_neg {n : Int} (h : n < 0) : awF n = n - 24 := by unfold awF; exact if_pos h
theorem awF_pos {n : Int} (h : ¬ n < 0) : awF n = n := by unfold awF; exact if_neg h
attribute [local irreducible] awF
def kp157 : List (Nat × List Nat) := [(0, [0, 1]), (1, [0, 1, 5]), (2, [0, 1, 5, 6]), (3, [0, 1, 5, 6, 11]), (5, [0, 1, 5, 6, 18]), (6, [0, 1, 5, 6]), (7, [0, 1, 5, 6]), (4, [0, 1, 5, 6]), (8, [4])]
attribute [go_sem] kp157
theorem l11Away_fc (t : List Int) (h1 : t.length ≤ 1000) (ht : ∀ x ∈ t, -24 ≤ x) : FC S 157 [] [] [] [.sl .any (t.map (.int .i64)), .int .i64 24] (.sl .any ((awayL t).map (.int .i64))) [] [] := by
 refine fc_body Try.func157 rfl (by kernel_rfl) (by simp [Try.f157]) fun B => ?_
 simp only [Try.ntmps157, enumD, lst0, Nat.reduceAdd]
 repeat' first | refine sw_seq ?_ | refine sw_block ?_ | refine sw_inBlock ?_ | refine sw_skip ?_ | refine sw_go 0 kp157 fun K hK => ?_ | refine fun (K : KT) (hK : KOk S 0 _ _ _ K) => ?_ | ((first | refine runL_go ?_ | refine sw_ret (ret0 ?_) | refine sw_ret ?_); simp (disch := (refine Om.mk ?_; omega)) only [go_sem, Try.results157]) | (refine hK.nil ?_; clear hK K; simp only [go_sem]) | ((first | refine sw_cond rfl ?_ ?_) <;> intro h <;> try simp (disch := (refine Om.mk ?_; omega)) only [go_sem] at h) | refine sw_exit rfl ?_ | refine sw_loopEnd ?_ | (with_reducible refine And.intro (by first | omega | (simp only [lens]; omega)) ?_) | ((with_reducible refine And.intro ?_ ?_); · first | (intro x hx; subst hx; rfl) | (intro x; refine And.intro ?_ ?_ <;> (intros; subst_vars; rfl))) | fail
 refine sw_tok 5 35000 2 1 rfl (.inr rfl) rfl ?_
 simp only [go_sem]
 refine sw_loopT (ι := Nat) (fun i => [(0, .sl .any (t.map (.int .i64))), (1, .int .i64 24), (6, .int .i64 i), (5, .sl (.own 35000 2 1) ((awayL (t.take i)).map (.int .i64)))]) (fun _ => []) (fun _ => [35000]) (fun i => i ≤ t.length) (fun i => t.length - i) 0 (by (refine covers_mk0 rfl rfl ?_ ?_ ?_ ?_ <;> simp (disch := (refine Om.mk ?_; omega)) only [go_sem] <;> (try omega)); exact ⟨rfl, rfl⟩) (by omega) (fun i hi => ?_)
 simp only [go_sem]
 have hal := awayL_len (t.take i)
 rw [List.length_take] at hal
 by_cases hil : i < t.length
 ·have hg := ht _ (getD_mem t i hil)
  have hs := away_snoc hil
  by_cases h0 : t.getD i default < 0
  ·have e := awF_neg h0
   repeat' first | ((refine sw_renC 28000 35000 rfl rfl ?_; simp only [go_sem])) | ((exfalso; omega)) | refine sw_seq ?_ | refine sw_block ?_ | refine sw_inBlock ?_ | refine sw_skip ?_ | refine sw_go 0 kp157 fun K hK => ?_ | refine fun (K : KT) (hK : KOk S 0 _ _ _ K) => ?_ | ((first | refine runL_go ?_ | refine sw_ret (ret0 ?_) | refine sw_ret ?_); simp (disch := (refine Om.mk ?_; omega)) only [go_sem, Try.results157]) | (refine hK.nil ?_; clear hK K; simp only [go_sem]) | ((first | refine sw_cond rfl ?_ ?_) <;> intro h <;> try simp (disch := (refine Om.mk ?_; omega)) only [go_sem] at h) | refine sw_exit rfl ?_ | refine sw_loopEnd ?_ | (with_reducible refine And.intro (by first | omega | (simp only [lens]; omega)) ?_) | ((with_reducible refine And.intro ?_ ?_); · first | (intro x hx; subst hx; rfl) | (intro x; refine And.intro ?_ ?_ <;> (intros; subst_vars; rfl))) | fail
   exact ⟨i + 1, (by (refine covers_mk0 rfl rfl ?_ ?_ ?_ ?_ <;> simp (disch := (refine Om.mk ?_; omega)) only [go_sem] <;> (try omega)); all_goals first | exact ⟨by rw [hs, e], by omega⟩ | trace_state), by omega, by omega⟩
  ·have e := awF_pos h0
   repeat' first | ((exfalso; omega)) | refine sw_seq ?_ | refine sw_block ?_ | refine sw_inBlock ?_ | refine sw_skip ?_ | refine sw_go 0 kp157 fun K hK => ?_ | refine fun (K : KT) (hK : KOk S 0 _ _ _ K) => ?_ | ((first | refine runL_go ?_ | refine sw_ret (ret0 ?_) | refine sw_ret ?_); simp (disch := (refine Om.mk ?_; omega)) only [go_sem, Try.results157]) | (refine hK.nil ?_; clear hK K; simp only [go_sem]) | ((first | refine sw_cond rfl ?_ ?_) <;> intro h <;> try simp (disch := (refine Om.mk ?_; omega)) only [go_sem] at h) | refine sw_exit rfl ?_ | refine sw_loopEnd ?_ | (with_reducible refine And.intro (by first | omega | (simp only [lens]; omega)) ?_) | ((with_reducible refine And.intro ?_ ?_); · first | (intro x hx; subst hx; rfl) | (intro x; refine And.intro ?_ ?_ <;> (intros; subst_vars; rfl))) | fail
   exact ⟨i + 1, (by (refine covers_mk0 rfl rfl ?_ ?_ ?_ ?_ <;> simp (disch := (refine Om.mk ?_; omega)) only [go_sem] <;> (try omega)); all_goals first | exact ⟨by rw [hs, e], by omega⟩ | trace_state), by omega, by omega⟩
 ·repeat' first | ((exfalso; omega)) | refine sw_seq ?_ | refine sw_block ?_ | refine sw_inBlock ?_ | refine sw_skip ?_ | refine sw_go 0 kp157 fun K hK => ?_ | refine fun (K : KT) (hK : KOk S 0 _ _ _ K) => ?_ | ((first | refine runL_go ?_ | refine sw_ret (ret0 ?_) | refine sw_ret ?_); simp (disch := (refine Om.mk ?_; omega)) only [go_sem, Try.results157]) | (refine hK.nil ?_; clear hK K; simp only [go_sem]) | ((first | refine sw_cond rfl ?_ ?_) <;> intro h <;> try simp (disch := (refine Om.mk ?_; omega)) only [go_sem] at h) | refine sw_exit rfl ?_ | refine sw_loopEnd ?_ | (with_reducible refine And.intro (by first | omega | (simp only [lens]; omega)) ?_) | ((with_reducible refine And.intro ?_ ?_); · first | (intro x hx; subst hx; rfl) | (intro x; refine And.intro ?_ ?_ <;> (intros; subst_vars; rfl))) | fail
  rw [List.take_of_length_le (by omega)]
end Go.Proofs.Ytlcdahaihlflaaa
end
