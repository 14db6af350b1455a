/-
  P27, A17s, P28, E01, one behind the other.
-/
import Derived.Test.YtmogobaaophknaaG8
import Derived.Test.YtmogobaaophknaaLgK7
import Derived.Test.YtmogobaaophknaaLgK13
import Derived.Test.YtmogobaaophknaaG4
import Derived.Test.YtmogobaaophknaaG3
import Derived.Test.YtmogobaaophknaaSet
import Derived.Test.YtmogobaaophknaaG0
import Derived.Test.YtmogobaaophknaaLgK10
import Derived.Test.YtmogobaaophknaaLgK12
section
namespace Go.Proofs.Ytmogobaaophknaa
open Go Go.Lg
set_option linter.unusedSimpArgs false
set_option linter.unusedVariables false
set_option maxHeartbeats 4000000
attribute [local irreducible] SW runL runQ runG runQG FC Ret1 toF redoL ConnP
open Classical in
noncomputable def rowG (x : SystemT) (P : List DepPairT) (p : Nat) : Nat → List Int
 | 0 => []
 | j + 1 => if ConnP x (P.getD p default) (P.getD j default) then rowG x P p j ++ [(j : Int)] else rowG x P p j
noncomputable def graphG (x : SystemT) (P : List DepPairT) : Nat → List (List Int)
 | 0 => []
 | i + 1 => graphG x P i ++ [rowG x P i P.length]
theorem graphG_succ (x : SystemT) (P : List DepPairT) (i : Nat) : graphG x P (i + 1) = graphG x P i ++ [rowG x P i P.length] := rfl
theorem rowG_yes {x : SystemT} {P : List DepPairT} {p j : Nat} (h : ConnP x (P.getD p default) (P.getD j default)) : rowG x P p (j + 1) = rowG x P p j ++ [(j : Int)] := if_pos h
theorem rowG_no {x : SystemT} {P : List DepPairT} {p j : Nat} (h : ¬ ConnP x (P.getD p default) (P.getD j default)) : rowG x P p (j + 1) = rowG x P p j := if_neg h
theorem rowG_len (x : SystemT) (P : List DepPairT) (p : Nat) : ∀ j, (rowG x P p j).length ≤ j
 | 0 => Nat.le_refl _
 | j + 1 => by
  have ih := rowG_len x P p j
  unfold rowG
  split
  ·rw [List.length_append, List.length_singleton]; omega
  ·omega
theorem rowG_mem (x : SystemT) (P : List DepPairT) (p : Nat) : ∀ j, ∀ q ∈ rowG x P p j, 0 ≤ q ∧ q < j
 | 0, q, h => by cases h
 | j + 1, q, h => by
  unfold rowG at h
  split at h
  ·rcases List.mem_append.1 h with h | h
   ·have := rowG_mem x P p j q h; omega
   ·rw [List.mem_singleton.1 h]; omega
  ·have := rowG_mem x P p j q h; omega
theorem graphG_len (x : SystemT) (P : List DepPairT) : ∀ i, (graphG x P i).length = i
 | 0 => rfl
 | i + 1 => by unfold graphG; rw [List.length_append, List.length_singleton, graphG_len x P i]
theorem graphG_get (x : SystemT) (P : List DepPairT) : ∀ i j, j < i → (graphG x P i).getD j default = rowG x P j P.length
 | i + 1, j, h => by
  have hl := graphG_len x P i
  unfold graphG
  rw [List.getD_eq_getElem?_getD]
  by_cases e : j < i
  ·rw [List.getElem?_append_left (by omega), ← List.getD_eq_getElem?_getD]
   exact graphG_get x P i j e
  ·obtain rfl : j = i := by omega
   rw [List.getElem?_append_right (by omega), hl, Nat.sub_self]; rfl
attribute [local irreducible] rowG
def cellR (G : List (List Int)) (cur : D) (k j : Nat) : D := if j = k then cur else if j < k then IntsD (G.getD j default) else .sl .nil []
def cellsR (n : Nat) (G : List (List Int)) (cur : D) (k : Nat) : List D := (List.range n).map (cellR G cur k)
theorem cellsR_len (n : Nat) (G : List (List Int)) (cur : D) (k : Nat) : (cellsR n G cur k).length = n := by unfold cellsR; simp
theorem cellsR_cur {n : Nat} {G : List (List Int)} {cur : D} {k : Nat} (h : Om (k < n)) : (List.drop k (cellsR n G cur k)).head? = some cur := by
 rw [List.head?_drop, cellsR, List.getElem?_map, List.getElem?_range h.1]
 simp [cellR]
theorem cellsR_at {n : Nat} {G : List (List Int)} {cur : D} {k : Nat} (h : k < n) : (cellsR n G cur k)[k]? = some cur := by
 rw [cellsR, List.getElem?_map, List.getElem?_range h]
 simp [cellR]
theorem cellsR_get {n : Nat} {G : List (List Int)} {cur : D} {k j : Nat} {d : D} (h : (cellsR n G cur k)[j]? = some d) : j < n ∧ d = cellR G cur k j := by
 have hj : j < n := by have := (List.getElem?_eq_some_iff.1 h).1; rwa [cellsR_len] at this
 rw [cellsR, List.getElem?_map, List.getElem?_range hj] at h
 exact ⟨hj, (Option.some.inj h).symm⟩
theorem cellsR_set {n : Nat} {G : List (List Int)} {cur : D} {k : Nat} (x : D) : (cellsR n G cur k).set k x = cellsR n G x k := by
 refine List.ext_getElem (by simp [cellsR]) fun j h1 h2 => ?_
 have hj : j < n := by simpa [cellsR] using h2
 simp only [cellsR, List.getElem_set, List.getElem_map, List.getElem_range, cellR]
 by_cases e : k = j
 ·subst e; simp
 ·have e' : ¬ j = k := fun h => e h.symm
  simp [e, e']
theorem cellsR_pu (n : Nat) (G : List (List Int)) (cur : D) (k : Nat) (p : Nat → Bool) : (cellsR n G cur k).map (D.pu1 p) = cellsR n G (cur.pu1 p) k := by
 unfold cellsR
 rw [List.map_map]
 refine List.map_congr_left fun j _ => ?_
 simp only [Function.comp, cellR]
 split
 ·rfl
 ·split <;> rfl
theorem tksR_part (G : List (List Int)) (cur : D) (k : Nat) : ∀ n, D.tksL (cellsR n G cur k) = if k < n then cur.tks else []
 | 0 => rfl
 | n + 1 => by
  have happ : ∀ a b : List D, D.tksL (a ++ b) = D.tksL a ++ D.tksL b := fun a b => by
   induction a with
   | nil => rfl
   | cons x r ih => simp only [List.cons_append, D.tksL, ih, List.append_assoc]
  have ih := tksR_part G cur k n
  unfold cellsR at ih ⊢
  rw [List.range_succ, List.map_append, happ, ih]
  by_cases e : n = k
  ·subst e; simp [D.tksL, cellR]
  ·have h0 : (cellR G cur k n).tks = [] := by
    unfold cellR; rw [if_neg e]; split <;> rfl
   simp only [List.map_cons, List.map_nil, D.tksL, h0, List.append_nil]
   by_cases h : k < n
   ·rw [if_pos h, if_pos (by omega)]
   ·rw [if_neg h, if_neg (by omega)]
theorem idsR_part (G : List (List Int)) (tk : Tk) (xs : List D) (k : Nat) : ∀ n, D.idsL (cellsR n G (.sl tk xs) k) = []
 | 0 => rfl
 | n + 1 => by
  have happ : ∀ a b : List D, D.idsL (a ++ b) = D.idsL a ++ D.idsL b := fun a b => by
   induction a with
   | nil => rfl
   | cons x r ih => simp only [List.cons_append, D.idsL, ih, List.append_assoc]
  have ih := idsR_part G tk xs k n
  unfold cellsR at ih ⊢
  rw [List.range_succ, List.map_append, happ, ih]
  have h0 : (cellR G (.sl tk xs) k n).ids = [] := by
   unfold cellR; split
   ·rfl
   ·split <;> rfl
  simp only [List.map_cons, List.map_nil, D.idsL, h0, List.append_nil]
theorem cellsR_tks {n : Nat} {G : List (List Int)} {cur : D} {k : Nat} (h : Om (k < n)) : D.tksL (cellsR n G cur k) = cur.tks := by rw [tksR_part, if_pos h.1]
theorem cellsR_tksN (n : Nat) (G : List (List Int)) (k : Nat) : D.tksL (cellsR n G (.sl .nil []) k) = [] := by rw [tksR_part]; split <;> rfl
theorem cellsR_tksA (n : Nat) (G : List (List Int)) (xs : List D) (k : Nat) : D.tksL (cellsR n G (.sl .any xs) k) = [] := by rw [tksR_part]; split <;> rfl
theorem cellsR_zero (n : Nat) : (List.replicate n [D.sl Tk.nil []]).flatten = cellsR n [] (.sl .nil []) 0 := by
 rw [List.flatten_replicate_singleton]
 refine List.ext_getElem (by simp [cellsR]) fun j h1 h2 => ?_
 simp only [cellsR, List.getElem_map, List.getElem_range, List.getElem_replicate, cellR]
 split
 ·rfl
 ·rw [if_neg (by omega)]
theorem cellsR_next {n : Nat} {G : List (List Int)} {row : List Int} {tk : Tk} {k : Nat} (hG : G.length = k) (j : Nat) (c d : D) (hc : (cellsR n G (.sl tk (row.map (.int .i64))) k)[j]? = some c) (hd : (cellsR n (G ++ [row]) (.sl .nil []) (k + 1))[j]? = some d) : D.le c d := by
 obtain ⟨hj, rfl⟩ := cellsR_get hc
 obtain ⟨_, rfl⟩ := cellsR_get hd
 unfold cellR
 by_cases e : j = k
 ·subst e
  rw [if_pos rfl, if_neg (by omega), if_pos (by omega), List.getD_eq_getElem?_getD, List.getElem?_append_right (by omega), hG, Nat.sub_self]
  exact .any
 ·rw [if_neg e]
  by_cases h : j < k
  ·rw [if_pos h, if_neg (by omega), if_pos (by omega), List.getD_eq_getElem?_getD (l := G ++ [row]), List.getElem?_append_left (by omega), ← List.getD_eq_getElem?_getD]
   exact .refl _
  ·rw [if_neg h]
   split
   ·exact .refl _
   ·rw [if_neg (by omega)]; exact .refl _
theorem cellsR_end {n : Nat} {G : List (List Int)} {cur : D} (hG : G.length = n) : cellsR n G cur n = G.map IntsD := by
 refine List.ext_getElem (by simp [cellsR, hG]) fun j h1 h2 => ?_
 have hj : j < n := by simpa [cellsR] using h1
 simp only [cellsR, List.getElem_map, List.getElem_range, cellR]
 rw [if_neg (by omega), if_pos hj, List.getD_eq_getElem?_getD, List.getElem?_eq_getElem (by omega)]
 rfl
theorem flat_intsG (G : List (List Int)) : flat (G.map IntsD) = G.map IntsD := by
 induction G with
 | nil => rfl
 | cons y r ih => simp only [List.map_cons, flat, List.flatMap_cons] at ih ⊢; rw [ih]; rfl
attribute [local go_sem] cellsR_cur cellsR_set cellsR_pu cellsR_tks cellsR_tksN cellsR_tksA idsR_part cellsR_len
attribute [local irreducible] cellsR
def kp17 : List (Nat × List Nat) := [(0, [1, 2]), (1, [1, 2, 5]), (2, [1, 2, 5, 13, 14, 15]), (3, [1, 2, 5, 13, 14, 15, 16]), (4, [1, 2, 5, 6, 7, 13, 14, 15]), (5, [1, 2, 5, 6, 7, 13, 14, 15, 20, 21, 22]), (6, [1, 2, 5, 6, 7, 13, 14, 15, 20, 21, 22, 23]), (7, [1, 2, 5, 6, 7, 8, 9, 13, 14, 15, 20, 21, 22]), (8, [1, 2, 5, 6, 7, 8, 13, 14, 15, 20, 21, 22, 30]), (9, [1, 2, 5, 6, 7, 13, 14, 15, 20, 21, 22]), (10, [1, 2, 5, 6, 7, 13, 14, 15, 20, 21, 22]), (11, [1, 2, 5, 13, 14, 15]), (12, [4])]
attribute [go_sem] kp17
theorem graph_fc (x : SystemT) (hx : SystemOkP x) (P : List DepPairT) (hP : ∀ p ∈ P, PrOk x.sig p) (hl : P.length ≤ 64) : FC S 17 [] [] [] [SystemD x, .sl .any (P.map DepPairD)] (.sl .any ((graphG x P P.length).map IntsD)) [] [] := by
 have hr0 : ∀ p, rowG x P p 0 = [] := fun p => by unfold rowG; rfl
 refine fc_body Try.func17 rfl (by kernel_rfl) (by simp [Try.f17]) fun B => ?_
 simp only [Try.ntmps17, enumD, lst0, Nat.reduceAdd]
 repeat' first | refine sw_seq ?_ | refine sw_block ?_ | refine sw_inBlock ?_ | refine sw_skip ?_ | refine sw_go 0 kp17 fun K hK => ?_ | refine fun (K : KT) (hK : KOk S 0 _ _ _ K) => ?_ | ((first | refine runL_go ?_ | refine sw_ret (ret0 ?_) | refine sw_ret ?_); simp (disch := (refine Om.mk ?_; omega)) only [go_sem, Try.results17]) | (refine hK.nil ?_; clear hK K; simp only [go_sem]) | ((first | refine sw_cond rfl ?_ ?_) <;> intro h <;> try simp (disch := (refine Om.mk ?_; omega)) only [go_sem] at h) | refine sw_exit rfl ?_ | refine sw_loopEnd ?_ | (with_reducible refine And.intro (by first | omega | (simp only [lens]; omega)) ?_) | ((with_reducible refine And.intro ?_ ?_); · first | (intro x hx; subst hx; rfl) | (intro x; refine And.intro ?_ ?_ <;> (intros; subst_vars; rfl))) | fail
 rw [cellsR_zero]
 refine sw_loopT (ι := Nat) (fun i => [(15, .int .i64 i)]) (fun i => [(12, cellsR P.length (graphG x P i) (.sl .nil []) i)]) (fun _ => []) (fun i => i ≤ P.length) (fun i => P.length - i) 0 (by (refine covers_mk0 rfl rfl ?_ ?_ ?_ ?_ <;> simp (disch := (refine Om.mk ?_; omega)) only [go_sem] <;> (try omega)); all_goals first | rfl | exact ⟨rfl, rfl⟩ | trace_state) (by omega) (fun i hi => ?_)
 simp only [go_sem]
 have hgl := graphG_len x P i
 by_cases hil : i < P.length
 ·repeat' first | ((exfalso; omega)) | refine sw_seq ?_ | refine sw_block ?_ | refine sw_inBlock ?_ | refine sw_skip ?_ | refine sw_go 0 kp17 fun K hK => ?_ | refine fun (K : KT) (hK : KOk S 0 _ _ _ K) => ?_ | ((first | refine runL_go ?_ | refine sw_ret (ret0 ?_) | refine sw_ret ?_); simp (disch := (refine Om.mk ?_; omega)) only [go_sem, Try.results17]) | (refine hK.nil ?_; clear hK K; simp only [go_sem]) | ((first | refine sw_cond rfl ?_ ?_) <;> intro h <;> try simp (disch := (refine Om.mk ?_; omega)) only [go_sem] at h) | refine sw_exit rfl ?_ | refine sw_loopEnd ?_ | (with_reducible refine And.intro (by first | omega | (simp only [lens]; omega)) ?_) | ((with_reducible refine And.intro ?_ ?_); · first | (intro x hx; subst hx; rfl) | (intro x; refine And.intro ?_ ?_ <;> (intros; subst_vars; rfl))) | fail
  refine sw_tokBox 12 i 40000 2 1 (cs := cellsR P.length (graphG x P i) (.sl .nil []) i) (by simp [LS.purge, mapA, Lg.look, cellsR_pu, D.pu1]) (cellsR_at hil) (by simp (disch := (refine Om.mk ?_; omega)) [LS.purge, LS.clean, mapA, D.pu, D.pu1, D.tks, D.tksL, cellsR_pu, cellsR_tksN]) ?_
  simp (disch := (refine Om.mk ?_; omega)) only [go_sem]
  refine sw_loopT (ι := Nat) (fun j => [(22, .int .i64 j)]) (fun j => [(12, cellsR P.length (graphG x P i) (.sl (.own 40000 2 1) ((rowG x P i j).map (.int .i64))) i)]) (fun _ => [40000]) (fun j => j ≤ P.length) (fun j => P.length - j) 0 (by rw [hr0]; (refine covers_mk0 rfl rfl ?_ ?_ ?_ ?_ <;> simp (disch := (refine Om.mk ?_; omega)) only [go_sem] <;> (try omega)); all_goals first | rfl | exact ⟨rfl, rfl⟩ | trace_state) (by omega) (fun j hj => ?_)
  simp (disch := (refine Om.mk ?_; omega)) only [go_sem]
  have hrl := rowG_len x P i j
  by_cases hjl : j < P.length
  ·have cN := connected_fc x hx (P.getD i default) (P.getD j default) (hP _ (getD_mem P i hil)) (hP _ (getD_mem P j hjl))
   by_cases hc : ConnP x (P.getD i default) (P.getD j default)
   ·rw [tst_true hc] at cN
    have e := rowG_yes hc
    repeat' first | ((exfalso; omega)) | refine sw_seq ?_ | refine sw_block ?_ | refine sw_inBlock ?_ | refine sw_skip ?_ | refine sw_go 0 kp17 fun K hK => ?_ | refine fun (K : KT) (hK : KOk S 0 _ _ _ K) => ?_ | ((first | refine runL_go ?_ | refine sw_ret (ret0 ?_) | refine sw_ret ?_); simp (disch := (refine Om.mk ?_; omega)) only [go_sem, Try.results17]) | (refine hK.nil ?_; clear hK K; simp only [go_sem]) | ((first | refine sw_cond rfl ?_ ?_) <;> intro h <;> try simp (disch := (refine Om.mk ?_; omega)) only [go_sem] at h) | refine sw_exit rfl ?_ | refine sw_loopEnd ?_ | refine hK.c0 rfl rfl rfl (cN) rfl rfl rfl ?_ | (with_reducible refine And.intro (by first | omega | (simp only [lens]; omega)) ?_) | ((with_reducible refine And.intro ?_ ?_); · first | (intro x hx; subst hx; rfl) | (intro x; refine And.intro ?_ ?_ <;> (intros; subst_vars; rfl))) | fail
    all_goals exact ⟨j + 1, (by rw [e]; (refine covers_mk0 rfl rfl ?_ ?_ ?_ ?_ <;> simp (disch := (refine Om.mk ?_; omega)) only [go_sem] <;> (try omega)); all_goals first | (simp; done) | trace_state), by omega, by omega⟩
   ·rw [tst_false hc] at cN
    have e := rowG_no hc
    repeat' first | ((exfalso; omega)) | refine sw_seq ?_ | refine sw_block ?_ | refine sw_inBlock ?_ | refine sw_skip ?_ | refine sw_go 0 kp17 fun K hK => ?_ | refine fun (K : KT) (hK : KOk S 0 _ _ _ K) => ?_ | ((first | refine runL_go ?_ | refine sw_ret (ret0 ?_) | refine sw_ret ?_); simp (disch := (refine Om.mk ?_; omega)) only [go_sem, Try.results17]) | (refine hK.nil ?_; clear hK K; simp only [go_sem]) | ((first | refine sw_cond rfl ?_ ?_) <;> intro h <;> try simp (disch := (refine Om.mk ?_; omega)) only [go_sem] at h) | refine sw_exit rfl ?_ | refine sw_loopEnd ?_ | refine hK.c0 rfl rfl rfl (cN) rfl rfl rfl ?_ | (with_reducible refine And.intro (by first | omega | (simp only [lens]; omega)) ?_) | ((with_reducible refine And.intro ?_ ?_); · first | (intro x hx; subst hx; rfl) | (intro x; refine And.intro ?_ ?_ <;> (intros; subst_vars; rfl))) | fail
    all_goals exact ⟨j + 1, (by rw [e]; (refine covers_mk0 rfl rfl ?_ ?_ ?_ ?_ <;> simp (disch := (refine Om.mk ?_; omega)) only [go_sem] <;> (try omega)); all_goals first | (simp; done) | trace_state), by omega, by omega⟩
  ·obtain rfl : j = P.length := by omega
   refine sw_boxLe 12 (cellsR P.length (graphG x P i ++ [rowG x P i P.length]) (.sl .nil []) (i + 1)) rfl (by rw [cellsR_len, cellsR_len]) (cellsR_next hgl) ?_
   simp (disch := (refine Om.mk ?_; omega)) only [go_sem]
   repeat' first | ((exfalso; omega)) | refine sw_seq ?_ | refine sw_block ?_ | refine sw_inBlock ?_ | refine sw_skip ?_ | refine sw_go 0 kp17 fun K hK => ?_ | refine fun (K : KT) (hK : KOk S 0 _ _ _ K) => ?_ | ((first | refine runL_go ?_ | refine sw_ret (ret0 ?_) | refine sw_ret ?_); simp (disch := (refine Om.mk ?_; omega)) only [go_sem, Try.results17]) | (refine hK.nil ?_; clear hK K; simp only [go_sem]) | ((first | refine sw_cond rfl ?_ ?_) <;> intro h <;> try simp (disch := (refine Om.mk ?_; omega)) only [go_sem] at h) | refine sw_exit rfl ?_ | refine sw_loopEnd ?_ | (with_reducible refine And.intro (by first | omega | (simp only [lens]; omega)) ?_) | ((with_reducible refine And.intro ?_ ?_); · first | (intro x hx; subst hx; rfl) | (intro x; refine And.intro ?_ ?_ <;> (intros; subst_vars; rfl))) | fail
   all_goals exact ⟨i + 1, (by rw [graphG_succ]; (refine covers_mk0 rfl rfl ?_ ?_ ?_ ?_ <;> simp (disch := (refine Om.mk ?_; omega)) only [go_sem] <;> (try omega)); all_goals first | (simp; done) | trace_state), by omega, by omega⟩
 ·obtain rfl : i = P.length := by omega
  refine sw_freeze 5 1 .any ((graphG x P P.length).map IntsD) rfl rfl (by rw [cellsR_end hgl]; exact (flat_intsG _).symm) (by rw [List.length_map, hgl]) (fun d hd => by obtain ⟨y, _, rfl⟩ := List.mem_map.1 hd; rfl) (by rw [cellsR_end hgl]; intro d hd; obtain ⟨y, _, rfl⟩ := List.mem_map.1 hd; rfl) (.inl rfl) ?_
  simp only [go_sem]
  repeat' first | ((exfalso; omega)) | refine sw_seq ?_ | refine sw_block ?_ | refine sw_inBlock ?_ | refine sw_skip ?_ | refine sw_go 0 kp17 fun K hK => ?_ | refine fun (K : KT) (hK : KOk S 0 _ _ _ K) => ?_ | ((first | refine runL_go ?_ | refine sw_ret (ret0 ?_) | refine sw_ret ?_); simp (disch := (refine Om.mk ?_; omega)) only [go_sem, Try.results17]) | (refine hK.nil ?_; clear hK K; simp only [go_sem]) | ((first | refine sw_cond rfl ?_ ?_) <;> intro h <;> try simp (disch := (refine Om.mk ?_; omega)) only [go_sem] at h) | refine sw_exit rfl ?_ | refine sw_loopEnd ?_ | (with_reducible refine And.intro (by first | omega | (simp only [lens]; omega)) ?_) | ((with_reducible refine And.intro ?_ ?_); · first | (intro x hx; subst hx; rfl) | (intro x; refine And.intro ?_ ?_ <;> (intros; subst_vars; rfl))) | fail
end Go.Proofs.Ytmogobaaophknaa
end
section
namespace Go.Proofs.Ytmogobaaophknaa
open Go Go.Lg
set_option linter.unusedSimpArgs false
set_option linter.unusedVariables false
set_option maxHeartbeats 4000000
attribute [local irreducible] SW runL runQ runG runQG FC Ret1 toF redoL anyB
def kp18 : List (Nat × List Nat) := [(0, [0, 1]), (1, [0, 1, 7, 8, 9]), (2, [0, 1, 7, 8, 9, 10]), (3, [0, 1, 5, 6, 7, 8, 9]), (4, [0, 1, 7, 8, 9, 33]), (5, [4]), (6, [0, 1, 7, 8, 9]), (7, [4])]
attribute [go_sem] kp18
theorem setOk_fc (set : List Int) (n : Nat) (hn : n ≤ 1000) : FC S 18 [] [] [] [.sl .any (set.map (.int .i64)), .int .i64 n] (.bool (tst (SetPP set n))) [] [] := by
 refine fc_body Try.func18 rfl (by kernel_rfl) (by simp [Try.f18]) fun B => ?_
 simp only [Try.ntmps18, enumD, lst0, Nat.reduceAdd]
 refine sw_bnd 0 rfl fun hb0 => ?_
 simp only [D.bnd, List.length_map] at hb0
 repeat' first | refine sw_seq ?_ | refine sw_block ?_ | refine sw_inBlock ?_ | refine sw_skip ?_ | refine sw_go 0 kp18 fun K hK => ?_ | refine fun (K : KT) (hK : KOk S 0 _ _ _ K) => ?_ | ((first | refine runL_go ?_ | refine sw_ret (ret0 ?_) | refine sw_ret ?_); simp (disch := (refine Om.mk ?_; omega)) only [go_sem, Try.results18]) | (refine hK.nil ?_; clear hK K; simp only [go_sem]) | ((first | refine runG_fork rfl rfl rfl rfl rfl ?_ ?_ | refine sw_cond rfl ?_ ?_) <;> intro h <;> try simp (disch := (refine Om.mk ?_; omega)) only [go_sem] at h) | refine hK.skp rfl rfl ?_ | refine sw_exit rfl ?_ | refine sw_loopEnd ?_ | (refine hK.fork rfl rfl rfl ?_ ?_ <;> intro h <;> try simp (disch := (refine Om.mk ?_; omega)) only [go_sem] at h) | (with_reducible refine And.intro (by first | omega | (simp only [lens]; omega)) ?_) | fail
 refine sw_loopU (ι := Nat) (fun p => [(9, .int .i64 p)]) (fun p => []) (fun p => p ≤ set.length ∧ ∀ j < p, (0 ≤ set.getD j default ∧ set.getD j default < n) ∧ (0 < j → set.getD (j - 1) default < set.getD j default)) (fun p => set.length - p) 0 (by (refine covers_mk0 rfl rfl ?_ ?_ ?_ ?_ <;> simp (disch := (refine Om.mk ?_; omega)) only [go_sem] <;> (try omega))) ?_ (fun p hp => ?_)
 rotate_left
 simp only [go_sem]
 obtain ⟨hp, hj⟩ := hp
 repeat' first | refine sw_seq ?_ | refine sw_block ?_ | refine sw_inBlock ?_ | refine sw_skip ?_ | refine sw_go 0 kp18 fun K hK => ?_ | refine fun (K : KT) (hK : KOk S 0 _ _ _ K) => ?_ | ((first | refine runL_go ?_ | refine sw_ret (ret0 ?_) | refine sw_ret ?_); simp (disch := (refine Om.mk ?_; omega)) only [go_sem, Try.results18]) | (refine hK.nil ?_; clear hK K; simp only [go_sem]) | ((first | refine runG_fork rfl rfl rfl rfl rfl ?_ ?_ | refine sw_cond rfl ?_ ?_) <;> intro h <;> try simp (disch := (refine Om.mk ?_; omega)) only [go_sem] at h) | refine hK.skp rfl rfl ?_ | refine sw_exit rfl ?_ | refine sw_loopEnd ?_ | (refine hK.fork rfl rfl rfl ?_ ?_ <;> intro h <;> try simp (disch := (refine Om.mk ?_; omega)) only [go_sem] at h) | (with_reducible refine And.intro (by first | omega | (simp only [lens]; omega)) ?_) | fail
 all_goals first | exact fun hS => absurd (hS p (by omega)) (by omega) | exact fun j hj' => hj j (by omega) | exact ⟨p + 1, (by (refine covers_mk0 rfl rfl ?_ ?_ ?_ ?_ <;> simp (disch := (refine Om.mk ?_; omega)) only [go_sem] <;> (try omega))), ⟨by omega, upto_succ hj (by omega)⟩, by omega⟩ | exact fun j hj' => absurd hj' (by omega) | skip
end Go.Proofs.Ytmogobaaophknaa
end
section
namespace Go.Proofs.Ytmogobaaophknaa
open Go Go.Lg
set_option linter.unusedSimpArgs false
set_option linter.unusedVariables false
set_option maxHeartbeats 4000000
attribute [local irreducible] SW runL runQ runG runQG FC Ret1 toF redoL ConnP partsR graphG
open Classical in
noncomputable def partsInR (x : SystemT) (set : List Int) : List (List Int) := if PairsP x ∧ SetPP set (allP x).length then partsR (graphG x (allP x) (allP x).length) set else []
theorem partsInR_yes {x : SystemT} {set : List Int} (h : PairsP x ∧ SetPP set (allP x).length) : partsInR x set = partsR (graphG x (allP x) (allP x).length) set := if_pos h
theorem partsInR_no {x : SystemT} {set : List Int} (h : ¬ (PairsP x ∧ SetPP set (allP x).length)) : partsInR x set = [] := if_neg h
section
variable {set : List Int} {n : Nat}
theorem setPP_lt (h : SetPP set n) : ∀ d i, i + d + 1 < set.length → set.getD i default < set.getD (i + d + 1) default
 | 0, i, hi => (h (i + 1) hi).2 (by omega)
 | d + 1, i, hi => by
  have h1 := setPP_lt h d i (by omega)
  have h2 := (h (i + (d + 1) + 1) hi).2 (by omega)
  rw [show i + (d + 1) + 1 - 1 = i + d + 1 by omega] at h2
  omega
theorem setPP_sort (h : SetPP set n) : SortP set := by
 refine List.pairwise_iff_getElem.2 fun i j hi hj hij => ?_
 have := setPP_lt h (j - i - 1) i (by omega)
 rw [show i + (j - i - 1) + 1 = j by omega, List.getD_eq_getElem?_getD, List.getD_eq_getElem?_getD, List.getElem?_eq_getElem hi, List.getElem?_eq_getElem hj] at this
 exact this
theorem setPP_in (h : SetPP set n) : ∀ q ∈ set, 0 ≤ q ∧ q < n := fun q hq => by
 obtain ⟨j, hj, rfl⟩ := List.getElem_of_mem hq
 have := (h j hj).1
 rwa [List.getD_eq_getElem?_getD, List.getElem?_eq_getElem hj] at this
theorem setPP_nodup (h : SetPP set n) : (natS set).Nodup := by
 unfold natS
 refine List.pairwise_map.2 ((setPP_sort h).imp_of_mem fun {a b} ha hb hab => ?_)
 have h1 := setPP_in h a ha
 have h2 := setPP_in h b hb
 omega
end
theorem graph_ok {x : SystemT} (hP : PairsP x) : (graphG x (allP x) (allP x).length).length = (allP x).length ∧ (∀ i < (graphG x (allP x) (allP x).length).length, ((graphG x (allP x) (allP x).length).getD i default).length ≤ 64) ∧ ∀ i < (graphG x (allP x) (allP x).length).length, ∀ j < ((graphG x (allP x) (allP x).length).getD i default).length, 0 ≤ ((graphG x (allP x) (allP x).length).getD i default).getD j default ∧ ((graphG x (allP x) (allP x).length).getD i default).getD j default < (allP x).length := by
 have h64 : (allP x).length ≤ 64 := hP.2
 have hl := graphG_len x (allP x) (allP x).length
 refine ⟨hl, fun i hi => ?_, fun i hi j hj => ?_⟩
 ·rw [graphG_get x (allP x) _ i (by omega)]
  have := rowG_len x (allP x) i (allP x).length
  omega
 ·rw [graphG_get x (allP x) _ i (by omega)] at hj ⊢
  exact rowG_mem x (allP x) i _ _ (getD_mem _ j hj)
theorem cmp_row {C : Nat → Nat → Bool} {set : List Int} : ∀ i ≤ set.length, ∀ y ∈ cmp C set i, y.length ≤ set.length
 | 0, _, y, h => by cases h
 | i + 1, hi, y, h => by
  unfold cmp at h
  split at h
  ·rcases List.mem_append.1 h with h | h
   ·exact cmp_row i (by omega) y h
   ·rw [List.mem_singleton.1 h]
    have := prtJ_len C (set.getD i default).toNat (set.drop i) (set.length - i)
    omega
  ·exact cmp_row i (by omega) y h
def kp9 : List (Nat × List Nat) := [(0, [1, 2]), (1, [1, 2, 5, 6]), (2, [1, 2, 5, 20]), (3, [4]), (4, [4])]
attribute [go_sem] kp9
theorem implPartsIn_fc (p : List Nat) (hp : p ≠ []) (x : SystemT) (set : List Int) : FC S 9 [] [] [] [SystemD x, .sl .any (set.map (.int .i64))] (Int64SSL p (partsInR x set)) [] [] := by
 rcases Classical.em (PairsP x) with hP | hP
 ·have h64 : (allP x).length ≤ 64 := hP.2
  have cS := setOk_fc set (allP x).length (by omega)
  have cP := implPairsOf_fc x
  rw [pairsR_yes hP] at cP
  rcases Classical.em (SetPP set (allP x).length) with hS | hS
  ·rw [partsInR_yes ⟨hP, hS⟩]
   rw [tst_true hS] at cS
   obtain ⟨g1, g2, g3⟩ := graph_ok hP
   have hsl := set_le hS
   have cG := graph_fc x hP.1 (allP x) (allP_ok hP) h64
   have cT := parts_fc p hp (graphG x (allP x) (allP x).length) set (by omega) (by rw [g1]; exact fun i hi => (hS i hi).1) (by rw [g1]; exact fun i hi => g3 i (by omega)) (fun i hi => by have := g2 i hi; omega) (setPP_nodup hS) (by omega)
   generalize graphG x (allP x) (allP x).length = gr at *
   generalize partsR gr set = R at *
   refine fc_body Try.func9 rfl (by kernel_rfl) (by simp [Try.f9]) fun B => ?_
   simp only [Try.ntmps9, enumD, lst0, Nat.reduceAdd]
   repeat' first | ((exfalso; omega)) | refine sw_seq ?_ | refine sw_skip ?_ | refine sw_go 0 kp9 fun K hK => ?_ | refine fun (K : KT) (hK : KOk S 0 _ _ _ K) => ?_ | ((first | refine runL_go ?_ | refine sw_ret (ret0 ?_) | refine sw_ret ?_); simp (disch := (refine Om.mk ?_; omega)) only [go_sem, Try.results9]) | (refine hK.nil ?_; clear hK K; simp only [go_sem]) | ((first | refine runG_fork rfl rfl rfl rfl rfl ?_ ?_ | refine sw_cond rfl ?_ ?_) <;> intro h <;> try simp (disch := (refine Om.mk ?_; omega)) only [go_sem] at h) | refine hK.skp rfl rfl ?_ | refine sw_loopEnd ?_ | refine hK.c0 rfl rfl rfl (cP) rfl rfl rfl ?_ | refine hK.c0 rfl rfl rfl (cS) rfl rfl rfl ?_ | refine hK.c0 rfl rfl rfl (cG) rfl rfl rfl ?_ | refine hK.c0 rfl rfl rfl (cT) rfl rfl rfl ?_ | (refine hK.fork rfl rfl rfl ?_ ?_ <;> intro h <;> try simp (disch := (refine Om.mk ?_; omega)) only [go_sem] at h) | (with_reducible refine And.intro (by first | omega | (simp only [lens]; omega)) ?_) | fail
  ·rw [partsInR_no fun h => hS h.2]
   rw [tst_false hS] at cS
   refine fc_body Try.func9 rfl (by kernel_rfl) (by simp [Try.f9]) fun B => ?_
   simp only [Try.ntmps9, enumD, lst0, Nat.reduceAdd]
   repeat' first | ((exfalso; omega)) | refine sw_seq ?_ | refine sw_skip ?_ | refine sw_go 0 kp9 fun K hK => ?_ | refine fun (K : KT) (hK : KOk S 0 _ _ _ K) => ?_ | ((first | refine runL_go ?_ | refine sw_ret (ret0 ?_) | refine sw_ret ?_); simp (disch := (refine Om.mk ?_; omega)) only [go_sem, Try.results9]) | (refine hK.nil ?_; clear hK K; simp only [go_sem]) | ((first | refine runG_fork rfl rfl rfl rfl rfl ?_ ?_ | refine sw_cond rfl ?_ ?_) <;> intro h <;> try simp (disch := (refine Om.mk ?_; omega)) only [go_sem] at h) | refine hK.skp rfl rfl ?_ | refine sw_loopEnd ?_ | refine hK.c0 rfl rfl rfl (cP) rfl rfl rfl ?_ | refine hK.c0 rfl rfl rfl (cS) rfl rfl rfl ?_ | (refine hK.fork rfl rfl rfl ?_ ?_ <;> intro h <;> try simp (disch := (refine Om.mk ?_; omega)) only [go_sem] at h) | (with_reducible refine And.intro (by first | omega | (simp only [lens]; omega)) ?_) | fail
   all_goals (simp [mapR, le0]; done)
 ·rw [partsInR_no fun h => hP h.1]
  have cP := implPairsOf_fc x
  rw [pairsR_no hP] at cP
  refine fc_body Try.func9 rfl (by kernel_rfl) (by simp [Try.f9]) fun B => ?_
  simp only [Try.ntmps9, enumD, lst0, Nat.reduceAdd]
  repeat' first | ((exfalso; omega)) | refine sw_seq ?_ | refine sw_skip ?_ | refine sw_go 0 kp9 fun K hK => ?_ | refine fun (K : KT) (hK : KOk S 0 _ _ _ K) => ?_ | ((first | refine runL_go ?_ | refine sw_ret (ret0 ?_) | refine sw_ret ?_); simp (disch := (refine Om.mk ?_; omega)) only [go_sem, Try.results9]) | (refine hK.nil ?_; clear hK K; simp only [go_sem]) | ((first | refine runG_fork rfl rfl rfl rfl rfl ?_ ?_ | refine sw_cond rfl ?_ ?_) <;> intro h <;> try simp (disch := (refine Om.mk ?_; omega)) only [go_sem] at h) | refine hK.skp rfl rfl ?_ | refine sw_loopEnd ?_ | refine hK.c0 rfl rfl rfl (cP) rfl rfl rfl ?_ | (refine hK.fork rfl rfl rfl ?_ ?_ <;> intro h <;> try simp (disch := (refine Om.mk ?_; omega)) only [go_sem] at h) | (with_reducible refine And.intro (by first | omega | (simp only [lens]; omega)) ?_) | fail
  all_goals (simp [mapR, le0]; done)
end Go.Proofs.Ytmogobaaophknaa
end
section
namespace Go.Proofs.Ytmogobaaophknaa
open Go Go.Lg
set_option linter.unusedSimpArgs false
set_option linter.unusedVariables false
set_option maxHeartbeats 4000000
attribute [local irreducible] SW runL runQ runG runQG FC Ret1 toF redoL
structure Dc where
 i : Nat
 h : Int
def BytesP (bs : List Int) : Prop := ∀ x ∈ bs, 0 ≤ x ∧ x ≤ 255
def dMix (h : Int) : Int := IntKind.wrap .u64 (IntKind.wrap .u64 (h * 6364136223846793005) + 1442695040888963407)
def dX (h : Int) : Int := bits .and .u64 (dMix h / 2 ^ 33) 16777215
theorem and24 (a : Int) : 0 ≤ bits .and .u64 a 16777215 ∧ bits .and .u64 a 16777215 ≤ 16777215 := by
 have h : (BitVec.ofInt 64 a &&& BitVec.ofInt 64 16777215).toNat ≤ 16777215 := by
  rw [BitVec.toNat_and]
  exact Nat.le_trans Nat.and_le_right (by decide)
 have e : bits .and .u64 a 16777215 = ((BitVec.ofInt 64 a &&& BitVec.ofInt 64 16777215).toNat : Int) := by
  show IntKind.wrap .u64 ((BitVec.ofInt 64 a &&& BitVec.ofInt 64 16777215).toNat : Int) = _
  simp (disch := omega) only [IntKind.wrap_u64]
  omega
 rw [e]; omega
def dV (bs : List Int) (c : Dc) : Int := if c.i < bs.length then dX c.h + bs.getD c.i default else dX c.h
def dC (bs : List Int) (c : Dc) : Dc := ⟨if c.i < bs.length then c.i + 1 else c.i, dMix c.h⟩
def bel (bs : List Int) (c : Dc) (n : Int) : Int := (dV bs c).tmod n
theorem bel_lt {bs : List Int} (hb : BytesP bs) (c : Dc) {n : Int} (hn : 0 < n) : 0 ≤ bel bs c n ∧ bel bs c n < n := by
 have h1 := and24 (dMix c.h / 2 ^ 33)
 have h2 : 0 ≤ dV bs c := by
  unfold dV dX
  split
  ·rename_i h
   have := hb _ (getD_mem bs c.i h)
   omega
  ·omega
 exact ⟨Int.tmod_nonneg n h2, Int.tmod_lt_of_pos _ hn⟩
theorem wr64 {x : Int} (h : -9223372036854775808 ≤ x ∧ x ≤ 9223372036854775807) : IntKind.wrap .i64 x = x := wrap64m (.mk h)
theorem dE {hh y : Int} (hx : 0 ≤ bits .and .u64 (dMix hh / 2 ^ 33) 16777215 ∧ bits .and .u64 (dMix hh / 2 ^ 33) 16777215 ≤ 16777215) (hy : 0 ≤ y ∧ y ≤ 255) (n : Int) : (IntKind.wrap .i64 (IntKind.wrap .i64 (bits .and .u64 (IntKind.wrap .u64 (IntKind.wrap .u64 (hh * 6364136223846793005) + 1442695040888963407) / 2 ^ Int.toNat 33) 16777215) + y)).tmod n = (bits .and .u64 (dMix hh / 2 ^ 33) 16777215 + y).tmod n := by
 have e1 : IntKind.wrap .u64 (IntKind.wrap .u64 (hh * 6364136223846793005) + 1442695040888963407) / 2 ^ Int.toNat 33 = dMix hh / 2 ^ 33 := rfl
 rw [e1, wr64 (x := bits .and .u64 (dMix hh / 2 ^ 33) 16777215) (by omega), wr64 (by omega)]
theorem dE2 {hh : Int} (hx : 0 ≤ bits .and .u64 (dMix hh / 2 ^ 33) 16777215 ∧ bits .and .u64 (dMix hh / 2 ^ 33) 16777215 ≤ 16777215) (n : Int) : (IntKind.wrap .i64 (bits .and .u64 (IntKind.wrap .u64 (IntKind.wrap .u64 (hh * 6364136223846793005) + 1442695040888963407) / 2 ^ Int.toNat 33) 16777215)).tmod n = (bits .and .u64 (dMix hh / 2 ^ 33) 16777215).tmod n := by
 have e1 : IntKind.wrap .u64 (IntKind.wrap .u64 (hh * 6364136223846793005) + 1442695040888963407) / 2 ^ Int.toNat 33 = dMix hh / 2 ^ 33 := rfl
 rw [e1, wr64 (x := bits .and .u64 (dMix hh / 2 ^ 33) 16777215) (by omega)]
def rolH (bs : List Int) : Nat → Int
 | 0 => 7713106 + (bs.length : Int)
 | i + 1 => IntKind.wrap .u64 (IntKind.wrap .u64 (IntKind.wrap .u64 (rolH bs i * 1099511628211) + bs.getD i default) + 3)
def rolC (bs : List Int) : Dc := ⟨0, rolH bs bs.length⟩
theorem rolH_z (bs : List Int) : rolH bs 0 = 7713106 + (bs.length : Int) := rfl
theorem rolH_s (bs : List Int) (i : Nat) : rolH bs (i + 1) = IntKind.wrap .u64 (IntKind.wrap .u64 (IntKind.wrap .u64 (rolH bs i * 1099511628211) + bs.getD i default) + 3) := rfl
theorem dMixE (hh : Int) : IntKind.wrap .u64 (IntKind.wrap .u64 (hh * 6364136223846793005) + 1442695040888963407) = dMix hh := rfl
attribute [local irreducible] dMix
def kp11 : List (Nat × List Nat) := [(0, [0, 1]), (1, [0, 1]), (2, [0, 1, 5]), (3, [0, 1, 5, 31]), (4, [0, 1, 5]), (5, [1, 5]), (6, [4])]
attribute [go_sem] kp11
theorem below_fc (id : Nat) (bs : List Int) (hb : BytesP bs) (c : Dc) (hi : c.i ≤ bs.length) (n : Int) (hn : 0 < n) : FC S 11 [] [(id, [.sl .any (bs.map (.int .u8)), .int .i64 (c).i, .int .u64 (c).h])] [] [.box id 0, .int .i64 n] (.int .i64 (bel bs c n)) [(id, [.sl .any (bs.map (.int .u8)), .int .i64 (dC bs c).i, .int .u64 (dC bs c).h])] [] := by
 obtain ⟨i, hh⟩ := c
 dsimp only at hi
 have hbi : i < bs.length → 0 ≤ bs.getD i default ∧ bs.getD i default ≤ 255 := fun hlt => hb _ (getD_mem bs i hlt)
 have hx := and24 (dMix hh / 2 ^ 33)
 by_cases hlt : i < bs.length
 ·have hbi := hbi hlt
  simp only [bel, dV, dC, dX, if_pos hlt]
  refine fc_body Try.func11 rfl (by kernel_rfl) (by simp [Try.f11]) fun B => ?_
  simp only [Try.ntmps11, enumD, lst0, Nat.reduceAdd]
  refine sw_bnd_box id 0 (if_pos rfl) rfl fun hbid_0 => ?_
  simp only [D.bnd, List.length_map] at hbid_0
  repeat' first | ((exfalso; omega)) | refine sw_seq ?_ | refine sw_skip ?_ | refine sw_go 0 kp11 fun K hK => ?_ | refine fun (K : KT) (hK : KOk S 0 _ _ _ K) => ?_ | refine sw_goD kp11 (by kernel_rfl) fun K hK => ?_ | ((first | refine runL_go ?_ | refine runQ_go ?_ | refine sw_ret (ret0 ?_) | refine sw_ret ?_); simp (disch := (refine Om.mk ?_; omega)) only [go_sem, Try.results11]) | (refine hK.nil ?_; clear hK K; simp only [go_sem]) | ((first | refine sw_cond rfl ?_ ?_) <;> intro h <;> try simp (disch := (refine Om.mk ?_; omega)) only [go_sem] at h) | refine sw_loopEnd ?_ | (with_reducible refine And.intro (by first | omega | (simp only [lens]; omega)) ?_) | fail
  all_goals exact ⟨dE hx hbi n, by omega, dMixE hh⟩
 ·simp only [bel, dV, dC, dX, if_neg hlt]
  refine fc_body Try.func11 rfl (by kernel_rfl) (by simp [Try.f11]) fun B => ?_
  simp only [Try.ntmps11, enumD, lst0, Nat.reduceAdd]
  refine sw_bnd_box id 0 (if_pos rfl) rfl fun hbid_0 => ?_
  simp only [D.bnd, List.length_map] at hbid_0
  repeat' first | ((exfalso; omega)) | refine sw_seq ?_ | refine sw_skip ?_ | refine sw_go 0 kp11 fun K hK => ?_ | refine fun (K : KT) (hK : KOk S 0 _ _ _ K) => ?_ | refine sw_goD kp11 (by kernel_rfl) fun K hK => ?_ | ((first | refine runL_go ?_ | refine runQ_go ?_ | refine sw_ret (ret0 ?_) | refine sw_ret ?_); simp (disch := (refine Om.mk ?_; omega)) only [go_sem, Try.results11]) | (refine hK.nil ?_; clear hK K; simp only [go_sem]) | ((first | refine sw_cond rfl ?_ ?_) <;> intro h <;> try simp (disch := (refine Om.mk ?_; omega)) only [go_sem] at h) | refine sw_loopEnd ?_ | (with_reducible refine And.intro (by first | omega | (simp only [lens]; omega)) ?_) | fail
  all_goals exact ⟨dE2 hx n, dMixE hh⟩
def kp5 : List (Nat × List Nat) := [(0, [0, 1]), (1, [0, 5]), (2, [0, 5, 6]), (3, [0, 5, 6, 19]), (5, [0, 5, 6]), (4, [0, 5, 6]), (6, [4])]
attribute [go_sem] kp5
theorem roll_fc (bs : List Int) (hb : BytesP bs) (hl : bs.length ≤ 4096) : FC S 5 [] [] [] [.sl .any (bs.map (.int .u8)), .int .u64 974] (.box 15 0) [(15, [.sl .any (bs.map (.int .u8)), .int .i64 (rolC bs).i, .int .u64 (rolC bs).h])] [] := by
 have h0 := rolH_z bs
 refine fc_body Try.func5 rfl (by kernel_rfl) (by simp [Try.f5]) fun B => ?_
 simp only [Try.ntmps5, enumD, lst0, Nat.reduceAdd]
 repeat' first | refine sw_seq ?_ | refine sw_block ?_ | refine sw_inBlock ?_ | refine sw_skip ?_ | refine sw_go 0 kp5 fun K hK => ?_ | refine sw_goT 0 kp5 15 (id := 5) (by kernel_rfl) fun K hK => ?_ | refine fun (K : KT) (hK : KOk S 0 _ _ _ K) => ?_ | refine sw_goD kp5 (by kernel_rfl) fun K hK => ?_ | ((first | refine runL_go ?_ | refine runQ_go ?_ | refine sw_ret (ret0 ?_) | refine sw_ret ?_); simp (disch := (refine Om.mk ?_; omega)) only [go_sem, Try.results5]) | (refine hK.nil ?_; clear hK K; simp only [go_sem]) | ((first | refine sw_cond rfl ?_ ?_) <;> intro h <;> try simp (disch := (refine Om.mk ?_; omega)) only [go_sem] at h) | refine sw_exit rfl ?_ | refine sw_loopEnd ?_ | (with_reducible refine And.intro (by first | omega | (simp only [lens]; omega)) ?_) | ((with_reducible refine And.intro ?_ ?_); · first | (intro x hx; subst hx; rfl) | (intro x; refine And.intro ?_ ?_ <;> (intros; subst_vars; rfl))) | fail
 refine sw_loopT (ι := Nat) (fun i => [(6, .int .i64 i)]) (fun i => [(15, [.sl .any (bs.map (.int .u8)), .int .i64 0, .int .u64 (rolH bs i)])]) (fun _ => []) (fun i => i ≤ bs.length) (fun i => bs.length - i) 0 (by rw [h0]; (refine covers_mk0 rfl rfl ?_ ?_ ?_ ?_ <;> simp (disch := (refine Om.mk ?_; omega)) only [go_sem] <;> (try omega)); all_goals first | rfl | exact ⟨rfl, rfl⟩ | omega | trace_state) (by omega) (fun i hi => ?_)
 simp only [go_sem]
 have h2 := rolH_s bs i
 have h3 : i < bs.length → 0 ≤ bs.getD i default ∧ bs.getD i default ≤ 255 := fun hlt => hb _ (getD_mem bs i hlt)
 by_cases hil : i < bs.length
 ·have h3 := h3 hil
  repeat' first | ((exfalso; omega)) | refine sw_seq ?_ | refine sw_block ?_ | refine sw_inBlock ?_ | refine sw_skip ?_ | refine sw_go 0 kp5 fun K hK => ?_ | refine sw_goT 0 kp5 15 (id := 5) (by kernel_rfl) fun K hK => ?_ | refine fun (K : KT) (hK : KOk S 0 _ _ _ K) => ?_ | refine sw_goD kp5 (by kernel_rfl) fun K hK => ?_ | ((first | refine runL_go ?_ | refine runQ_go ?_ | refine sw_ret (ret0 ?_) | refine sw_ret ?_); simp (disch := (refine Om.mk ?_; omega)) only [go_sem, Try.results5]) | (refine hK.nil ?_; clear hK K; simp only [go_sem]) | ((first | refine sw_cond rfl ?_ ?_) <;> intro h <;> try simp (disch := (refine Om.mk ?_; omega)) only [go_sem] at h) | refine sw_exit rfl ?_ | refine sw_loopEnd ?_ | (with_reducible refine And.intro (by first | omega | (simp only [lens]; omega)) ?_) | ((with_reducible refine And.intro ?_ ?_); · first | (intro x hx; subst hx; rfl) | (intro x; refine And.intro ?_ ?_ <;> (intros; subst_vars; rfl))) | fail
  all_goals exact ⟨i + 1, (by rw [h2]; (refine covers_mk0 rfl rfl ?_ ?_ ?_ ?_ <;> simp (disch := (refine Om.mk ?_; omega)) only [go_sem] <;> (try omega)); all_goals first | rfl | exact ⟨rfl, rfl⟩ | exact ⟨by omega, rfl⟩ | exact ⟨rfl, by omega⟩ | omega | trace_state), by omega, by omega⟩
 ·repeat' first | ((exfalso; omega)) | refine sw_seq ?_ | refine sw_block ?_ | refine sw_inBlock ?_ | refine sw_skip ?_ | refine sw_go 0 kp5 fun K hK => ?_ | refine sw_goT 0 kp5 15 (id := 5) (by kernel_rfl) fun K hK => ?_ | refine fun (K : KT) (hK : KOk S 0 _ _ _ K) => ?_ | refine sw_goD kp5 (by kernel_rfl) fun K hK => ?_ | ((first | refine runL_go ?_ | refine runQ_go ?_ | refine sw_ret (ret0 ?_) | refine sw_ret ?_); simp (disch := (refine Om.mk ?_; omega)) only [go_sem, Try.results5]) | (refine hK.nil ?_; clear hK K; simp only [go_sem]) | ((first | refine sw_cond rfl ?_ ?_) <;> intro h <;> try simp (disch := (refine Om.mk ?_; omega)) only [go_sem] at h) | refine sw_exit rfl ?_ | refine sw_loopEnd ?_ | (with_reducible refine And.intro (by first | omega | (simp only [lens]; omega)) ?_) | ((with_reducible refine And.intro ?_ ?_); · first | (intro x hx; subst hx; rfl) | (intro x; refine And.intro ?_ ?_ <;> (intros; subst_vars; rfl))) | fail
  all_goals (rw [show i = bs.length by omega]; first | rfl | exact ⟨rfl, rfl⟩)
end Go.Proofs.Ytmogobaaophknaa
end
