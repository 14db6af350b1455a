/-
  Sorted forms modulo associativity and commutativity: the program's arrangement of parts.
-/
import Derived.Test.YtobbdopkdhjghaaA28j
import Derived.Test.YtobbdopkdhjghaaLgK8
namespace Go.Proofs.Ytobbdopkdhjghaa
open Go Go.Lg
set_option linter.unusedSimpArgs false
set_option linter.unusedVariables false
set_option maxHeartbeats 4000000
attribute [local irreducible] SW runL runQ runG runQG FC Ret1 toF redoL
attribute [local go_sem] D.mv
/-- the first forms, each under a label of its own -/
def lbs (N : Nat) (F : List Int → List Int) (ps : List (List Int)) (i : Nat) : List (Tk × List Int) := (List.range i).map fun j => (.lab [N, j], F (ps.getD j default))
theorem lbs_succ (N : Nat) (F : List Int → List Int) (ps : List (List Int)) (i : Nat) : lbs N F ps (i + 1) = lbs N F ps i ++ [(.lab [N, i], F (ps.getD i default))] := by simp [lbs, List.range_succ]
theorem lbs_len (N : Nat) (F : List Int → List Int) (ps : List (List Int)) (i : Nat) : (lbs N F ps i).length = i := by simp [lbs]
theorem lbs_snd (N : Nat) (F : List Int → List Int) (ps : List (List Int)) : (lbs N F ps ps.length).map (·.2) = ps.map F := by
  refine List.ext_getElem (by simp [lbs]) fun j h1 h2 => ?_
  have hj : j < ps.length := by simpa using h2
  simp [lbs, List.getElem?_eq_getElem hj]
def labOf : Tk → List Nat
  | .lab l => l
  | _ => []
def posOf (l : List Nat) : List (List Nat) → Nat
  | [] => 0
  | x :: r => if x = l then 0 else posOf l r + 1
theorem posOf_at : ∀ (ls : List (List Nat)), ls.Nodup → ∀ (j : Nat) (h : j < ls.length), posOf ls[j] ls = j
  | x :: r, hn, 0, _ => by simp [posOf]
  | x :: r, hn, j + 1, h => by
    have h1 := List.nodup_cons.1 hn
    have hj : j < r.length := by simpa using h
    have hne : x ≠ r[j] := fun e => h1.1 (e ▸ List.getElem_mem hj)
    simp only [List.getElem_cons_succ, posOf, if_neg hne]
    rw [posOf_at r h1.2 j hj]
/-- the labels that the sorted list is given -/
def relF (N : Nat) (p : List Nat) (ls : List (List Nat)) (l : List Nat) : List Nat := if l.head? = some N then p ++ [posOf l ls] ++ [0] else l
theorem relF_ne {N : Nat} {p : List Nat} {ls : List (List Nat)} : ∀ l, l ≠ [] → relF N p ls l ≠ [] := fun l h => by
  unfold relF
  split
  · simp
  · exact h
theorem relF_off {N : Nat} {p : List Nat} {ls : List (List Nat)} : ∀ l, (∀ r, l ≠ N :: r) → relF N p ls l = l := fun l h => by
  unfold relF
  rw [if_neg]
  intro e
  cases l with
  | nil => cases e
  | cons a r => exact h r (by rw [List.head?_cons, Option.some.injEq] at e; rw [e])
theorem rlL_ints (f : List Nat → List Nat) (xs : List Int) : D.rlL f (xs.map (.int .i64)) = xs.map (.int .i64) := by
  rw [rlL_map, List.map_map]; rfl
theorem relab_srt {N : Nat} {p : List Nat} {F : List Int → List Int} {ps : List (List Int)} {n : Nat} {qs : List (Tk × List Int)} (h : qs.Perm (lbs N F ps n)) :
    D.rlL (relF N p (qs.map fun q => labOf q.1)) (qs.map intsT) = mapR (fun i y => Int64SL (p ++ [i] ++ [0]) y) (qs.map (·.2)) := by
  have hnd : (qs.map fun q => labOf q.1).Nodup := by
    refine (h.map _).nodup_iff.2 ?_
    simp only [lbs, List.map_map]
    have : ((fun q : Tk × List Int => labOf q.1) ∘ fun j => (Tk.lab [N, j], F (ps.getD j default))) = fun j => [N, j] := rfl
    rw [this]
    exact List.Pairwise.map _ (fun a b hab e => hab (by simpa using e)) (List.nodup_range (n := n))
  have hlab : ∀ q ∈ qs, ∃ l, q.1 = .lab l ∧ l.head? = some N := fun q hq => by
    have := h.mem_iff.1 hq
    simp only [lbs, List.mem_map] at this
    obtain ⟨j, _, rfl⟩ := this
    exact ⟨_, rfl, rfl⟩
  rw [rlL_map, List.map_map]
  refine List.ext_getElem (by rw [List.length_map, mapR_length, List.length_map]) fun j h1 h2 => ?_
  have hj : j < qs.length := by simpa using h1
  obtain ⟨l, hl, hN⟩ := hlab _ (List.getElem_mem hj)
  have hpos := posOf_at _ hnd j (by simpa using hj)
  simp only [List.getElem_map] at hpos
  have e1 : labOf qs[j].1 = l := by rw [hl]; rfl
  rw [e1] at hpos
  have e2 : intsT qs[j] = .sl (.lab l) (qs[j].2.map (.int .i64)) := by
    unfold intsT; rw [hl]
  have e3 : relF N p (qs.map fun q => labOf q.1) l = p ++ [j] ++ [0] := by
    unfold relF; rw [if_pos hN, hpos]
  rw [List.getElem_map]
  show D.rl _ (intsT qs[j]) = _
  rw [e2]
  show D.sl (.lab (relF N p (qs.map fun q => labOf q.1) l)) (D.rlL _ _) = _
  rw [rlL_ints, e3]
  simp [mapR, Int64SL, List.getElem?_eq_getElem hj]
def kp171 : List (Nat × List Nat) := [(0, [1, 2, 3, 4]), (1, [1, 2, 3, 4, 9]), (2, [2, 3, 9, 14, 15, 16]), (3, [2, 3, 9, 14, 15, 16, 17]), (4, [2, 3, 9, 11, 14, 15, 16]), (5, [2, 3, 9, 14, 15, 16]), (6, [2, 3, 9, 14, 15, 16]), (7, [9]), (8, [8])]
attribute [go_sem] kp171
theorem arranged_fc (hkit : SortKit S.P 98 99) (p : List Nat) (hp : p ≠ []) (rs ac t : List Int) (F : List Int → List Int) (hT : TermOkP rs t) (hf : arS rs (t.getD 0 default) = 2) (hF : ∀ x ∈ partsT rs (t.getD 0 default) t, ∀ q : List Nat, q ≠ [] → FC S 86 [] [] [] [.agg [.sl .any (rs.map (.int .i64)), .sl .any (ac.map (.int .i64))], .sl .any (x.map (.int .i64))] (.sl (.lab q) ((F x).map (.int .i64))) [] []) : FC S 171 [] [] [] [.agg [.sl .any (rs.map (.int .i64)), .sl .any (ac.map (.int .i64))], .sl .any (t.map (.int .i64)), D.mv 86 (.agg [.sl .any (rs.map (.int .i64)), .sl .any (ac.map (.int .i64))]), .fn 99 []] (Int64SSL p (srtM ((partsT rs (t.getD 0 default) t).map F))) [] [] := by
  have hp2 := parts_len hf hT
  have cP := (parts_fc rs ac _ hf t.length t hT (Nat.le_refl _) rfl).weak (bx'' := []) (tk'' := []) .any (by simp) (by simp)
  generalize hps : partsT rs (t.getD 0 default) t = ps at *
  refine fc_bodyF Try.func171 rfl (by kernel_rfl) (by simp [Try.f171]) fun B N hOff => ?_
  simp only [Try.ntmps171, enumD, List.map_nil, List.map_cons, List.length_map, Nat.zero_add, Nat.reduceAdd]
  repeat' first
    | exact Bool.noConfusion h
    | refine sw_seq ?_
    | refine sw_block ?_
    | refine sw_skip ?_
    | refine sw_inBlock ?_
    | refine sw_go 0 kp171 fun K hK => ?_
    | refine fun (K : List Oper → LS → Prop) (hK : KOk S 0 _ _ _ K) => ?_
    | ((first | refine runL_go ?_ | refine runQ_go ?_); simp (disch := (refine Om.mk ?_; omega)) only [go_sem, Nat.reduceAdd, Nat.reduceMul, Nat.reduceLT, Nat.reduceLeDiff, Nat.reduceEqDiff, Nat.reduceBEq, Nat.reduceSub, ↓reduceIte, reduceCtorEq])
    | (refine hK.nil ?_; clear hK K; simp only [go_sem, Nat.reduceAdd, Nat.reduceMul, Nat.reduceLT, Nat.reduceLeDiff, Nat.reduceEqDiff, Nat.reduceBEq, Nat.reduceSub, ↓reduceIte, reduceCtorEq])
    | (refine sw_cond rfl (fun h => ?_) (fun h => ?_) <;> (try simp (disch := (refine Om.mk ?_; omega)) only [go_sem, Nat.reduceAdd, Nat.reduceMul, Nat.reduceLT, Nat.reduceLeDiff, Nat.reduceEqDiff, Nat.reduceBEq, Nat.reduceSub, ↓reduceIte, reduceCtorEq] at h))
    | (refine sw_exit rfl ?_)
    | (refine sw_loopEnd ?_)
    | ((first | refine sw_ret (ret0 ?_) | refine sw_ret ?_); simp (disch := (refine Om.mk ?_; omega)) only [go_sem, Nat.reduceAdd, Nat.reduceMul, Nat.reduceLT, Nat.reduceLeDiff, Nat.reduceEqDiff, Nat.reduceBEq, Nat.reduceSub, ↓reduceIte, reduceCtorEq, Try.results171])
    | refine hK.call rfl rfl rfl (cP) ⟨(by intro p hp; cases hp), rfl, rfl, (by simp only [dstOk, Nat.reduceLT])⟩ ?_
    | (with_reducible refine And.intro (by first | omega | (simp only [List.length_append, List.length_take, List.length_drop, List.length_cons, List.length_nil, List.length_map]; omega)) ?_)
    | ((with_reducible refine And.intro ?_ ?_); · first | (intro x hx; subst hx; rfl) | exact upR_mem fun _ _ => rfl | exact mapR_mem fun _ _ => rfl | (intro x; refine And.intro ?_ ?_ <;> (intros; subst_vars; rfl)))
    | fail
  refine sw_tok 9 26000 22 1 rfl (.inl rfl) rfl ?_
  simp only [go_sem, Nat.reduceAdd, Nat.reduceMul, Nat.reduceLT, Nat.reduceLeDiff, Nat.reduceEqDiff, Nat.reduceBEq, Nat.reduceSub, ↓reduceIte, reduceCtorEq]
  refine sw_loopT (ι := Nat) (fun i => [(16, .int .i64 i), (9, .sl (.own 26000 22 1) ((lbs N F ps i).map intsT))]) (fun _ => []) (fun _ => [26000]) (fun i => i ≤ ps.length) (fun i => ps.length - i) 0 (by (refine covers_mk0 rfl rfl ?_ ?_ ?_ ?_ <;> simp (disch := (refine Om.mk ?_; omega)) only [go_sem, Nat.reduceAdd, Nat.reduceMul, Nat.reduceLT, Nat.reduceLeDiff, Nat.reduceEqDiff, Nat.reduceBEq, Nat.reduceSub, ↓reduceIte, reduceCtorEq] <;> (try omega)); all_goals first | rfl | exact ⟨rfl, rfl⟩ | trace_state) (by omega) (fun i hi => ?_)
  simp only [go_sem, Nat.reduceAdd, Nat.reduceMul, Nat.reduceLT, Nat.reduceLeDiff, Nat.reduceEqDiff, Nat.reduceBEq, Nat.reduceSub, ↓reduceIte, reduceCtorEq]
  have hll := lbs_len N F ps i
  by_cases hlt : i < ps.length
  · have hmem : ps.getD i default ∈ ps := by
      have e1 : ps.getD i default = ps[i] := by rw [List.getD_eq_getElem?_getD, List.getElem?_eq_getElem hlt, Option.getD_some]
      rw [e1]
      exact List.getElem_mem hlt
    have cF := hF _ hmem [N, i] (by simp)
    repeat' first
      | ((exfalso; omega))
      | ((refine hK.callV rfl rfl rfl cF ⟨(by intro p hp; cases hp), rfl, rfl, by simp only [dstOk, Nat.reduceLT]⟩ ?_))
      | exact Bool.noConfusion h
      | refine sw_seq ?_
      | refine sw_block ?_
      | refine sw_skip ?_
      | refine sw_inBlock ?_
      | refine sw_go 0 kp171 fun K hK => ?_
      | refine fun (K : List Oper → LS → Prop) (hK : KOk S 0 _ _ _ K) => ?_
      | ((first | refine runL_go ?_ | refine runQ_go ?_); simp (disch := (refine Om.mk ?_; omega)) only [go_sem, Nat.reduceAdd, Nat.reduceMul, Nat.reduceLT, Nat.reduceLeDiff, Nat.reduceEqDiff, Nat.reduceBEq, Nat.reduceSub, ↓reduceIte, reduceCtorEq])
      | (refine hK.nil ?_; clear hK K; simp only [go_sem, Nat.reduceAdd, Nat.reduceMul, Nat.reduceLT, Nat.reduceLeDiff, Nat.reduceEqDiff, Nat.reduceBEq, Nat.reduceSub, ↓reduceIte, reduceCtorEq])
      | (refine sw_cond rfl (fun h => ?_) (fun h => ?_) <;> (try simp (disch := (refine Om.mk ?_; omega)) only [go_sem, Nat.reduceAdd, Nat.reduceMul, Nat.reduceLT, Nat.reduceLeDiff, Nat.reduceEqDiff, Nat.reduceBEq, Nat.reduceSub, ↓reduceIte, reduceCtorEq] at h))
      | (refine sw_exit rfl ?_)
      | (refine sw_loopEnd ?_)
      | ((first | refine sw_ret (ret0 ?_) | refine sw_ret ?_); simp (disch := (refine Om.mk ?_; omega)) only [go_sem, Nat.reduceAdd, Nat.reduceMul, Nat.reduceLT, Nat.reduceLeDiff, Nat.reduceEqDiff, Nat.reduceBEq, Nat.reduceSub, ↓reduceIte, reduceCtorEq, Try.results171])
      | (with_reducible refine And.intro (by first | omega | (simp only [List.length_append, List.length_take, List.length_drop, List.length_cons, List.length_nil, List.length_map]; omega)) ?_)
      | ((with_reducible refine And.intro ?_ ?_); · first | (intro x hx; subst hx; rfl) | exact upR_mem fun _ _ => rfl | exact mapR_mem fun _ _ => rfl | (intro x; refine And.intro ?_ ?_ <;> (intros; subst_vars; rfl)))
      | fail
    exact ⟨i + 1, (by (refine covers_mk0 rfl rfl ?_ ?_ ?_ ?_ <;> simp (disch := (refine Om.mk ?_; omega)) only [go_sem, Nat.reduceAdd, Nat.reduceMul, Nat.reduceLT, Nat.reduceLeDiff, Nat.reduceEqDiff, Nat.reduceBEq, Nat.reduceSub, ↓reduceIte, reduceCtorEq] <;> (try omega)); rw [lbs_succ, List.map_append]; all_goals first | exact ⟨rfl, by omega⟩ | exact ⟨by omega, rfl⟩ | trace_state), by omega, by omega⟩
  · have hil : i = ps.length := by omega
    subst hil
    repeat' first
      | ((exfalso; omega))
      | exact Bool.noConfusion h
      | refine sw_seq ?_
      | refine sw_block ?_
      | refine sw_skip ?_
      | refine sw_inBlock ?_
      | refine sw_go 0 kp171 fun K hK => ?_
      | refine fun (K : List Oper → LS → Prop) (hK : KOk S 0 _ _ _ K) => ?_
      | ((first | refine runL_go ?_ | refine runQ_go ?_); simp (disch := (refine Om.mk ?_; omega)) only [go_sem, Nat.reduceAdd, Nat.reduceMul, Nat.reduceLT, Nat.reduceLeDiff, Nat.reduceEqDiff, Nat.reduceBEq, Nat.reduceSub, ↓reduceIte, reduceCtorEq])
      | (refine hK.nil ?_; clear hK K; simp only [go_sem, Nat.reduceAdd, Nat.reduceMul, Nat.reduceLT, Nat.reduceLeDiff, Nat.reduceEqDiff, Nat.reduceBEq, Nat.reduceSub, ↓reduceIte, reduceCtorEq])
      | (refine sw_cond rfl (fun h => ?_) (fun h => ?_) <;> (try simp (disch := (refine Om.mk ?_; omega)) only [go_sem, Nat.reduceAdd, Nat.reduceMul, Nat.reduceLT, Nat.reduceLeDiff, Nat.reduceEqDiff, Nat.reduceBEq, Nat.reduceSub, ↓reduceIte, reduceCtorEq] at h))
      | (refine sw_exit rfl ?_)
      | (refine sw_loopEnd ?_)
      | ((first | refine sw_ret (ret0 ?_) | refine sw_ret ?_); simp (disch := (refine Om.mk ?_; omega)) only [go_sem, Nat.reduceAdd, Nat.reduceMul, Nat.reduceLT, Nat.reduceLeDiff, Nat.reduceEqDiff, Nat.reduceBEq, Nat.reduceSub, ↓reduceIte, reduceCtorEq, Try.results171])
      | (with_reducible refine And.intro (by first | omega | (simp only [List.length_append, List.length_take, List.length_drop, List.length_cons, List.length_nil, List.length_map]; omega)) ?_)
      | ((with_reducible refine And.intro ?_ ?_); · first | (intro x hx; subst hx; rfl) | exact upR_mem fun _ _ => rfl | exact mapR_mem fun _ _ => rfl | (intro x; refine And.intro ?_ ?_ <;> (intros; subst_vars; rfl)))
      | fail
    refine hK.raw (LopsW.sortOwn (k := 26000) rfl ⟨_, Try.func98, by kernel_rfl, rfl⟩ hkit cmpTm (fun _ => True) (fun x y _ _ => compareTerms_fc .any .any x y) cmpT_ord hOff.1 (by simp) rfl rfl ?_ ?_ (fun qs => [(9, .sl (.own 26000 22 1) (qs.map intsT))]) (fun _ => []) ?_ ?_ (by simp only [Nat.reduceLT]) ?_)
    · exact fun q hq => ⟨trivial, by obtain ⟨j, _, rfl⟩ := List.mem_map.1 hq; rfl⟩
    · rw [lbs_len]; omega
    · exact fun qs q hq => by obtain rfl := List.mem_singleton.1 hq; exact ⟨_, rfl, .inr ⟨rfl, rfl⟩⟩
    · exact fun qs q hq => by cases hq
    intro qs hq1 hq2
    refine LopsW.nil ?_
    simp only [go_sem, Nat.reduceAdd, Nat.reduceMul, Nat.reduceLT, Nat.reduceLeDiff, Nat.reduceEqDiff, Nat.reduceBEq, Nat.reduceSub, ↓reduceIte, reduceCtorEq]
    have e0 : qs.map (·.2) = srtM (ps.map F) := by
      refine srtM_of ?_ (List.pairwise_map.2 hq2)
      have := hq1.map (fun q : Tk × List Int => q.2)
      rwa [lbs_snd] at this
    refine sw_relab hOff (f := relF N p (qs.map fun q => labOf q.1)) relF_ne relF_off [(9, .sl (.own 26000 22 1) (mapR (fun i y => Int64SL (p ++ [i] ++ [0]) y) (srtM (ps.map F))))] [] (fun q hq => ?_) (fun q hq => by cases hq) ?_
    · obtain rfl := List.mem_singleton.1 hq
      refine ⟨_, rfl, noPL_of fun d hd => ?_, ?_⟩
      · obtain ⟨x, _, rfl⟩ := List.mem_map.1 hd
        exact noPL_of fun d hd => by obtain ⟨y, _, rfl⟩ := List.mem_map.1 hd; rfl
      · show D.sl _ _ = D.sl _ (D.rlL _ (qs.map intsT))
        rw [relab_srt hq1, e0]
    simp only [go_sem, Nat.reduceAdd, Nat.reduceMul, Nat.reduceLT, Nat.reduceLeDiff, Nat.reduceEqDiff, Nat.reduceBEq, Nat.reduceSub, ↓reduceIte, reduceCtorEq]
    refine sw_lab 9 p rfl (by simp) hp ?_
    simp only [go_sem, Nat.reduceAdd, Nat.reduceMul, Nat.reduceLT, Nat.reduceLeDiff, Nat.reduceEqDiff, Nat.reduceBEq, Nat.reduceSub, ↓reduceIte, reduceCtorEq]
    repeat' first
      | exact Bool.noConfusion h
      | refine sw_seq ?_
      | refine sw_block ?_
      | refine sw_skip ?_
      | refine sw_inBlock ?_
      | refine sw_go 0 kp171 fun K hK => ?_
      | refine fun (K : List Oper → LS → Prop) (hK : KOk S 0 _ _ _ K) => ?_
      | ((first | refine runL_go ?_ | refine runQ_go ?_); simp (disch := (refine Om.mk ?_; omega)) only [go_sem, Nat.reduceAdd, Nat.reduceMul, Nat.reduceLT, Nat.reduceLeDiff, Nat.reduceEqDiff, Nat.reduceBEq, Nat.reduceSub, ↓reduceIte, reduceCtorEq])
      | (refine hK.nil ?_; clear hK K; simp only [go_sem, Nat.reduceAdd, Nat.reduceMul, Nat.reduceLT, Nat.reduceLeDiff, Nat.reduceEqDiff, Nat.reduceBEq, Nat.reduceSub, ↓reduceIte, reduceCtorEq])
      | (refine sw_cond rfl (fun h => ?_) (fun h => ?_) <;> (try simp (disch := (refine Om.mk ?_; omega)) only [go_sem, Nat.reduceAdd, Nat.reduceMul, Nat.reduceLT, Nat.reduceLeDiff, Nat.reduceEqDiff, Nat.reduceBEq, Nat.reduceSub, ↓reduceIte, reduceCtorEq] at h))
      | (refine sw_exit rfl ?_)
      | (refine sw_loopEnd ?_)
      | ((first | refine sw_ret (ret0 ?_) | refine sw_ret ?_); simp (disch := (refine Om.mk ?_; omega)) only [go_sem, Nat.reduceAdd, Nat.reduceMul, Nat.reduceLT, Nat.reduceLeDiff, Nat.reduceEqDiff, Nat.reduceBEq, Nat.reduceSub, ↓reduceIte, reduceCtorEq, Try.results171])
      | (with_reducible refine And.intro (by first | omega | (simp only [List.length_append, List.length_take, List.length_drop, List.length_cons, List.length_nil, List.length_map]; omega)) ?_)
      | ((with_reducible refine And.intro ?_ ?_); · first | (intro x hx; subst hx; rfl) | exact upR_mem fun _ _ => rfl | exact mapR_mem fun _ _ => rfl | (intro x; refine And.intro ?_ ?_ <;> (intros; subst_vars; rfl)))
      | fail
    all_goals trace_state
end Go.Proofs.Ytobbdopkdhjghaa
