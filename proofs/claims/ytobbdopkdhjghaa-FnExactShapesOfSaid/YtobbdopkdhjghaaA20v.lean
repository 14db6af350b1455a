/-
  Variants of equations, both sides.
-/
import Derived.Test.YtobbdopkdhjghaaA04
import Derived.Test.YtobbdopkdhjghaaA20
namespace Go.Proofs.Ytobbdopkdhjghaa
open Go Go.Lg
set_option linter.unusedSimpArgs false
set_option linter.unusedVariables false
set_option maxHeartbeats 4000000
attribute [local irreducible] SW runL runQ runG runQG FC Ret1
def kp200 : List (Nat × List Nat) := [(0, [0]), (1, [0, 4]), (2, [2]), (3, [2])]
attribute [go_sem] kp200
theorem cloneOwn_fc (tk : Tk) (xs : List Int) (hl : xs.length ≤ 17592186044416) : FC S 200 [] [] [] [.sl tk (xs.map (.int .i64))] (.sl (.own 0 2 1) (xs.map (.int .i64))) [] [0] := by
  refine FC.args (args' := [.sl .any (xs.map (.int .i64))]) ?_ (by simp only [go_sem, Nat.reduceAdd, Nat.reduceMul, Nat.reduceLT, Nat.reduceLeDiff, Nat.reduceEqDiff, Nat.reduceBEq, Nat.reduceSub, ↓reduceIte, reduceCtorEq])
  refine fc_body1 Try.func200 rfl (by kernel_rfl) (by simp [Try.f200]) fun B => ?_
  simp only [Try.ntmps200, enumD, List.map_nil, List.map_cons, List.length_map, Nat.zero_add, Nat.reduceAdd]
  refine sw_bnd 0 rfl fun hb0 => ?_
  simp only [D.bnd, List.length_map] at hb0
  refine sw_nilcase 0 rfl (fun hx => ?_) ?_ <;> simp only [go_sem, Nat.reduceAdd, Nat.reduceMul, Nat.reduceLT, Nat.reduceLeDiff, Nat.reduceEqDiff, Nat.reduceBEq, Nat.reduceSub, ↓reduceIte, reduceCtorEq]
  · have hx : xs = [] := by simpa using hx
    subst hx
    repeat' first
      | (refine sw_tok 2 5000 2 1 rfl (.inl rfl) rfl ?_; simp only [go_sem, Nat.reduceAdd, Nat.reduceMul, Nat.reduceLT, Nat.reduceLeDiff, Nat.reduceEqDiff, Nat.reduceBEq, Nat.reduceSub, ↓reduceIte, reduceCtorEq])
      | exact Bool.noConfusion h
      | refine sw_seq ?_
      | refine sw_block ?_
      | refine sw_skip ?_
      | refine sw_inBlock ?_
      | refine sw_go 0 kp200 fun K hK => ?_
      | refine fun (K : List Oper → LS → Prop) (hK : KOk S 0 _ _ _ K) => ?_
      | ((first | refine runL_go ?_ | refine runQ_go ?_); simp (disch := (refine Om.mk ?_; omega)) only [go_sem, Nat.reduceAdd, Nat.reduceMul, Nat.reduceLT, Nat.reduceLeDiff, Nat.reduceEqDiff, Nat.reduceBEq, Nat.reduceSub, ↓reduceIte, reduceCtorEq])
      | (refine hK.nil ?_; clear hK K; simp only [go_sem, Nat.reduceAdd, Nat.reduceMul, Nat.reduceLT, Nat.reduceLeDiff, Nat.reduceEqDiff, Nat.reduceBEq, Nat.reduceSub, ↓reduceIte, reduceCtorEq])
      | (refine sw_cond rfl (fun h => ?_) (fun h => ?_) <;> (try simp (disch := (refine Om.mk ?_; omega)) only [go_sem, Nat.reduceAdd, Nat.reduceMul, Nat.reduceLT, Nat.reduceLeDiff, Nat.reduceEqDiff, Nat.reduceBEq, Nat.reduceSub, ↓reduceIte, reduceCtorEq] at h))
      | (refine sw_exit rfl ?_)
      | (refine sw_loopEnd ?_)
      | ((first | refine sw_ret (ret0 ?_) | refine sw_ret ?_); simp (disch := (refine Om.mk ?_; omega)) only [go_sem, Nat.reduceAdd, Nat.reduceMul, Nat.reduceLT, Nat.reduceLeDiff, Nat.reduceEqDiff, Nat.reduceBEq, Nat.reduceSub, ↓reduceIte, reduceCtorEq, Try.results200])
      | (with_reducible refine And.intro (by first | omega | (simp only [List.length_append, List.length_take, List.length_drop, List.length_cons, List.length_nil, List.length_map]; omega)) ?_)
      | ((with_reducible refine And.intro ?_ ?_); · first | (intro x hx; subst hx; rfl) | exact upR_mem fun _ _ => rfl | exact mapR_mem fun _ _ => rfl | (intro x; refine And.intro ?_ ?_ <;> (intros; subst_vars; rfl)))
      | fail
    exact ret1_own rfl (by simp)
  · repeat' first
      | exact Bool.noConfusion h
      | refine sw_seq ?_
      | refine sw_block ?_
      | refine sw_skip ?_
      | refine sw_inBlock ?_
      | refine sw_go 0 kp200 fun K hK => ?_
      | refine fun (K : List Oper → LS → Prop) (hK : KOk S 0 _ _ _ K) => ?_
      | ((first | refine runL_go ?_ | refine runQ_go ?_); simp (disch := (refine Om.mk ?_; omega)) only [go_sem, Nat.reduceAdd, Nat.reduceMul, Nat.reduceLT, Nat.reduceLeDiff, Nat.reduceEqDiff, Nat.reduceBEq, Nat.reduceSub, ↓reduceIte, reduceCtorEq])
      | (refine hK.nil ?_; clear hK K; simp only [go_sem, Nat.reduceAdd, Nat.reduceMul, Nat.reduceLT, Nat.reduceLeDiff, Nat.reduceEqDiff, Nat.reduceBEq, Nat.reduceSub, ↓reduceIte, reduceCtorEq])
      | (refine sw_cond rfl (fun h => ?_) (fun h => ?_) <;> (try simp (disch := (refine Om.mk ?_; omega)) only [go_sem, Nat.reduceAdd, Nat.reduceMul, Nat.reduceLT, Nat.reduceLeDiff, Nat.reduceEqDiff, Nat.reduceBEq, Nat.reduceSub, ↓reduceIte, reduceCtorEq] at h))
      | (refine sw_exit rfl ?_)
      | (refine sw_loopEnd ?_)
      | ((first | refine sw_ret (ret0 ?_) | refine sw_ret ?_); simp (disch := (refine Om.mk ?_; omega)) only [go_sem, Nat.reduceAdd, Nat.reduceMul, Nat.reduceLT, Nat.reduceLeDiff, Nat.reduceEqDiff, Nat.reduceBEq, Nat.reduceSub, ↓reduceIte, reduceCtorEq, Try.results200])
      | (with_reducible refine And.intro (by first | omega | (simp only [List.length_append, List.length_take, List.length_drop, List.length_cons, List.length_nil, List.length_map]; omega)) ?_)
      | ((with_reducible refine And.intro ?_ ?_); · first | (intro x hx; subst hx; rfl) | exact upR_mem fun _ _ => rfl | exact mapR_mem fun _ _ => rfl | (intro x; refine And.intro ?_ ?_ <;> (intros; subst_vars; rfl)))
      | fail
    exact ret1_own rfl (by simp)
theorem pu_ints (f : Nat → Bool) (ys : List Int) : (ys.map (D.int .i64)).map (D.pu1 f) = ys.map (.int .i64) := by
  rw [List.map_map]; rfl
theorem tksL_ints (ys : List Int) : D.tksL (ys.map (D.int .i64)) = [] := by
  induction ys with
  | nil => rfl
  | cons y r ih => simp only [List.map_cons, D.tksL, ih]; rfl
theorem idsL_ints (ys : List Int) : D.idsL (ys.map (D.int .i64)) = [] := by
  induction ys with
  | nil => rfl
  | cons y r ih => simp only [List.map_cons, D.idsL, ih]; rfl
attribute [local go_sem] pu_ints tksL_ints idsL_ints
theorem code_new {s : List Int} {x : Int} (h0 : x < 0) (h : x ∉ s) : codeI (s ++ [x]) x = -1 - (s.length : Int) := by
  unfold codeI
  rw [if_neg (by omega), List.idxOf_append, if_neg h]
  simp
theorem code_old {s : List Int} {x : Int} (h0 : x < 0) : codeI s x = -1 - (s.idxOf x : Int) := by
  unfold codeI
  rw [if_neg (by omega)]
def seenT (ts : List (List Int)) (j : Nat) : List Int := (ts.take j).foldl seenS []
theorem renL_len : ∀ (ts : List (List Int)) (s : List Int), (renL s ts).length = ts.length
  | [], _ => rfl
  | t :: ts, s => by simp [renL, renL_len ts]
theorem seenT_succ (ts : List (List Int)) (j : Nat) (h : j < ts.length) : seenT ts (j + 1) = seenS (seenT ts j) (ts.getD j default) := by
  unfold seenT
  rw [List.take_succ_eq_append_getElem h, List.foldl_append]
  simp [List.getD, List.getElem?_eq_getElem h]
theorem seenS_snoc : ∀ (l s : List Int) (n : Int), seenS s (l ++ [n]) = if 0 ≤ n ∨ n ∈ seenS s l then seenS s l else seenS s l ++ [n]
  | [], s, n => rfl
  | m :: l, s, n => by
    simp only [List.cons_append, seenS]
    split
    · exact seenS_snoc l s n
    · exact seenS_snoc l (s ++ [m]) n
def mixS (s t : List Int) (i : Nat) : List Int := (t.take i).map (codeI (seenS s (t.take i))) ++ t.drop i
theorem mixS_len (s t : List Int) (i : Nat) (h : i ≤ t.length) : (mixS s t i).length = t.length := by simp [mixS]; omega
theorem mixS_split (s t : List Int) (i : Nat) (h : i < t.length) : mixS s t i = (t.take i).map (codeI (seenS s (t.take i))) ++ t.getD i default :: t.drop (i + 1) := by
  unfold mixS
  rw [drop_cons h]
theorem mixS_get (s t : List Int) (i : Nat) (h : i < t.length) : (mixS s t i).getD i default = t.getD i default := by
  rw [mixS_split s t i h]
  have : ((t.take i).map (codeI (seenS s (t.take i)))).length = i := by simp; omega
  have h2 := getD_app (q := (t.take i).map (codeI (seenS s (t.take i)))) (x := t.getD i default) (s := t.drop (i + 1))
  rwa [this] at h2
theorem mixS_all (s t : List Int) (i : Nat) (h : t.length ≤ i) : mixS s t i = t.map (codeI (seenS s t)) ∧ seenS s (t.take i) = seenS s t := by
  unfold mixS
  rw [List.take_of_length_le h, List.drop_of_length_le h, List.append_nil]
  exact ⟨rfl, rfl⟩
theorem seen_take (s t : List Int) (i : Nat) (h : i < t.length) : seenS s (t.take (i + 1)) = if 0 ≤ t.getD i default ∨ t.getD i default ∈ seenS s (t.take i) then seenS s (t.take i) else seenS s (t.take i) ++ [t.getD i default] := by
  have e : t.take (i + 1) = t.take i ++ [t.getD i default] := by
    rw [List.take_succ_eq_append_getElem h]; simp [List.getD, List.getElem?_eq_getElem h]
  rw [e, seenS_snoc]
theorem mixS_succ (s t : List Int) (i : Nat) (h : i < t.length) : mixS s t (i + 1) = (t.take i).map (codeI (seenS s (t.take i))) ++ codeI (seenS s (t.take (i + 1))) (t.getD i default) :: t.drop (i + 1) := by
  have e : t.take (i + 1) = t.take i ++ [t.getD i default] := by
    rw [List.take_succ_eq_append_getElem h]; simp [List.getD, List.getElem?_eq_getElem h]
  have hpre : ∃ r, seenS s (t.take (i + 1)) = seenS s (t.take i) ++ r := by
    rw [seen_take s t i h]
    split
    · exact ⟨[], by simp⟩
    · exact ⟨_, rfl⟩
  obtain ⟨r, hr⟩ := hpre
  have e2 : (t.take (i + 1)).map (codeI (seenS s (t.take (i + 1)))) = (t.take i).map (codeI (seenS s (t.take i))) ++ [codeI (seenS s (t.take (i + 1))) (t.getD i default)] := by
    conv => lhs; arg 2; rw [e]
    rw [List.map_append]
    congr 1
    rw [hr]; exact code_all
  unfold mixS
  rw [e2, List.append_assoc]; rfl
theorem mixS_stay (s t : List Int) (i : Nat) (h : i < t.length) (h0 : 0 ≤ t.getD i default) : mixS s t (i + 1) = mixS s t i := by
  rw [mixS_succ s t i h, mixS_split s t i h]
  rw [show codeI (seenS s (t.take (i + 1))) (t.getD i default) = t.getD i default from if_pos h0]
theorem len_app_set (a : List Int) (k : Nat) (b : List Int) {x y : Int} (h : a.length = k) : (a ++ x :: b).set k y = a ++ y :: b := by
  subst h
  induction a with
  | nil => rfl
  | cons c a ih => simp [ih]
theorem mixS_set (s t : List Int) (i : Nat) (h : i < t.length) : (mixS s t i).set i (codeI (seenS s (t.take (i + 1))) (t.getD i default)) = mixS s t (i + 1) := by
  rw [mixS_succ s t i h, mixS_split s t i h, len_app_set _ _ _ (by simp; omega)]
theorem fidx_idx (n : Int) : ∀ xs : List Int, (n ∈ xs → fidx (fun x => x = n) xs = (xs.idxOf n : Int)) ∧ (n ∉ xs → fidx (fun x => x = n) xs = -1) := fun xs => by
  constructor
  · intro h
    have hlt := List.idxOf_lt_length_of_mem h
    have hget : xs.getD (xs.idxOf n) default = n := by simp [List.getD, List.getElem?_eq_getElem hlt]
    refine fidx_at (p := fun x => x = n) (fun j hj e => ?_) hlt hget
    have hjl : j < xs.length := by omega
    have : xs[j] = n := by rw [← e]; simp [List.getD, List.getElem?_eq_getElem hjl]
    have := List.not_of_lt_findIdx (p := (· == n)) (xs := xs) (i := j) hj
    simp_all
  · intro h
    exact fidx_none (p := fun x => x = n) fun j hj e => h (e ▸ getD_mem xs j hj)
theorem seenS_len : ∀ (t s : List Int), (seenS s t).length ≤ s.length + t.length
  | [], s => by simp [seenS]
  | n :: l, s => by
    simp only [seenS]
    split
    · have := seenS_len l s; simp only [List.length_cons]; omega
    · have := seenS_len l (s ++ [n]); simp only [List.length_append, List.length_cons, List.length_nil] at this ⊢; omega
theorem seenT_len (ts : List (List Int)) (h : ∀ t ∈ ts, t.length ≤ 60) : ∀ j, j ≤ ts.length → (seenT ts j).length ≤ 60 * j
  | 0, _ => by simp [seenT]
  | j + 1, hj => by
    have ih := seenT_len ts h j (by omega)
    have h1 := seenS_len (ts.getD j default) (seenT ts j)
    have h2 := h _ (getD_mem ts j (by omega))
    rw [seenT_succ ts j (by omega)]
    omega
def kp147 : List (Nat × List Nat) := [(0, [0]), (1, [0, 3]), (2, [0, 3, 4]), (3, [3, 4, 11, 12, 13]), (4, [3, 4, 11, 12, 13, 14]), (5, [3, 4, 6, 11, 12, 13]), (6, [3, 4, 7, 11, 12, 13]), (7, [3, 4, 7, 11, 12, 13, 19, 20, 21]), (8, [3, 4, 7, 11, 12, 13, 19, 20, 21, 22]), (9, [3, 4, 7, 8, 9, 11, 12, 13, 19, 20, 21]), (10, [3, 4, 7, 8, 9, 11, 12, 13, 19, 20, 21, 27]), (11, [3, 4, 7, 8, 9, 10, 11, 12, 13, 19, 20, 21]), (12, [3, 4, 7, 8, 9, 10, 11, 12, 13, 19, 20, 21, 32]), (13, [3, 4, 7, 8, 9, 10, 11, 12, 13, 19, 20, 21]), (14, [3, 4, 7, 8, 10, 11, 12, 13, 19, 20, 21]), (15, [3, 4, 7, 11, 12, 13, 19, 20, 21]), (16, [3, 4, 7, 11, 12, 13, 19, 20, 21]), (17, [3, 4, 11, 12, 13]), (18, [3, 4, 11, 12, 13]), (19, [2])]
attribute [go_sem] kp147
end Go.Proofs.Ytobbdopkdhjghaa
