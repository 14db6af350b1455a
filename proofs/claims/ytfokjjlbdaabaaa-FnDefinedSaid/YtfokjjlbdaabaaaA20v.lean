/-
  Variants of equations, both sides.
-/
import Derived.Test.YtfokjjlbdaabaaaACl
import Derived.Test.YtfokjjlbdaabaaaA04
import Derived.Test.YtfokjjlbdaabaaaA20
namespace Go.Proofs.Ytfokjjlbdaabaaa
open Go Go.Lg
set_option linter.unusedSimpArgs false
set_option linter.unusedVariables false
set_option maxHeartbeats 4000000
attribute [local irreducible] SW runL runQ runG runQG FC Ret1
theorem sw_freezeAt1 {B : Base} {R : LS → Prop} {k : List VItem} {L : LS} (rid t s : Nat) (tk : Tk) {id n : Nat} {cs : List D} (xs : List D) {ops : Array Oper} {dr : Bool} (ht : Lg.look L.env t = some (.ms id n)) (hb : Lg.look L.boxes id = some cs) (hx : cs = flat xs) (hn : n = xs.length)
    (hu : ∀ x ∈ xs, x.cells.length = s) (hk : ∀ d ∈ cs, d.memOk = true) (htk : tk = .any ∨ tk = .nn) (hh : SW S B R (.code (.region rid ops dr) :: k) { L with env := setA L.env t (.sl tk xs), boxes := eraseK id L.boxes }) : SW S B R (.code (.region rid ops dr) :: k) L :=
  sw_freeze t s tk xs ht hb hx hn hu hk htk hh
theorem cloneOwn_fc (tk : Tk) (xs : List Int) (hl : xs.length ≤ 17592186044416) : FC S 93 [] [] [] [.sl tk (xs.map (.int .i64))] (.sl (.own 0 2 1) (xs.map (.int .i64))) [] [0] := by
  refine FC.args (args' := [.sl .any (xs.map (.int .i64))]) ?_ (by simp only [go_sem])
  refine fc_body1 Try.func93 rfl (by kernel_rfl) (by simp [Try.f93]) fun B => ?_
  simp only [Try.ntmps93, enumD, List.map_nil, List.map_cons, List.length_map, Nat.zero_add, Nat.reduceAdd]
  refine sw_bnd 0 rfl fun hb0 => ?_
  simp only [D.bnd, List.length_map] at hb0
  refine sw_nilcase 0 rfl (fun hx => ?_) ?_ <;> simp only [go_sem]
  · have hx : xs = [] := by simpa using hx
    subst hx
    repeat' first
      | (refine sw_tok 2 5000 2 1 rfl (.inl rfl) rfl ?_; simp only [go_sem])
      | exact Bool.noConfusion h
      | refine sw_seq ?_
      | refine sw_block ?_
      | refine sw_skip ?_
      | refine sw_inBlock ?_
      | refine sw_go 0 kp93 fun K hK => ?_
      | refine fun (K : List Oper → LS → Prop) (hK : KOk S 0 _ _ _ K) => ?_
      | ((first | refine runL_go ?_ | refine runQ_go ?_); simp (disch := (refine Om.mk ?_; omega)) only [go_sem])
      | (refine hK.nil ?_; clear hK K; simp only [go_sem])
      | (refine sw_cond rfl (fun h => ?_) (fun h => ?_) <;> (try simp (disch := (refine Om.mk ?_; omega)) only [go_sem] at h))
      | (refine sw_exit rfl ?_)
      | (refine sw_loopEnd ?_)
      | ((first | refine sw_ret (ret0 ?_) | refine sw_ret ?_); simp (disch := (refine Om.mk ?_; omega)) only [go_sem, Try.results93])
      | (with_reducible refine And.intro (by first | omega | (simp only [List.length_append, List.length_take, List.length_drop, List.length_cons, List.length_nil, List.length_map]; omega)) ?_)
      | ((with_reducible refine And.intro ?_ ?_); · first | (intro x hx; subst hx; rfl) | exact upR_mem fun _ _ => rfl | exact mapR_mem fun _ _ => rfl | (intro x; refine And.intro ?_ ?_ <;> (intros; subst_vars; rfl)))
      | fail
    exact ret1_own rfl (by simp)
  · repeat' first
      | exact Bool.noConfusion h
      | refine sw_seq ?_
      | refine sw_block ?_
      | refine sw_skip ?_
      | refine sw_inBlock ?_
      | refine sw_go 0 kp93 fun K hK => ?_
      | refine fun (K : List Oper → LS → Prop) (hK : KOk S 0 _ _ _ K) => ?_
      | ((first | refine runL_go ?_ | refine runQ_go ?_); simp (disch := (refine Om.mk ?_; omega)) only [go_sem])
      | (refine hK.nil ?_; clear hK K; simp only [go_sem])
      | (refine sw_cond rfl (fun h => ?_) (fun h => ?_) <;> (try simp (disch := (refine Om.mk ?_; omega)) only [go_sem] at h))
      | (refine sw_exit rfl ?_)
      | (refine sw_loopEnd ?_)
      | ((first | refine sw_ret (ret0 ?_) | refine sw_ret ?_); simp (disch := (refine Om.mk ?_; omega)) only [go_sem, Try.results93])
      | (with_reducible refine And.intro (by first | omega | (simp only [List.length_append, List.length_take, List.length_drop, List.length_cons, List.length_nil, List.length_map]; omega)) ?_)
      | ((with_reducible refine And.intro ?_ ?_); · first | (intro x hx; subst hx; rfl) | exact upR_mem fun _ _ => rfl | exact mapR_mem fun _ _ => rfl | (intro x; refine And.intro ?_ ?_ <;> (intros; subst_vars; rfl)))
      | fail
    exact ret1_own rfl (by simp)
theorem pu_ints (f : Nat → Bool) (ys : List Int) : (ys.map (D.int .i64)).map (D.pu1 f) = ys.map (.int .i64) := by
  rw [List.map_map]; rfl
theorem tksL_ints (ys : List Int) : D.tksL (ys.map (D.int .i64)) = [] := by
  induction ys with
  | nil => rfl
  | cons y r ih => simp only [List.map_cons, D.tksL, ih]; rfl
theorem idsL_ints (ys : List Int) : D.idsL (ys.map (D.int .i64)) = [] := by
  induction ys with
  | nil => rfl
  | cons y r ih => simp only [List.map_cons, D.idsL, ih]; rfl
attribute [local go_sem] pu_ints tksL_ints idsL_ints
theorem code_new {s : List Int} {x : Int} (h0 : x < 0) (h : x ∉ s) : codeI (s ++ [x]) x = -1 - (s.length : Int) := by
  unfold codeI
  rw [if_neg (by omega), List.idxOf_append, if_neg h]
  simp
theorem code_old {s : List Int} {x : Int} (h0 : x < 0) : codeI s x = -1 - (s.idxOf x : Int) := by
  unfold codeI
  rw [if_neg (by omega)]
def seenT (ts : List (List Int)) (j : Nat) : List Int := (ts.take j).foldl seenS []
def renT (ts : List (List Int)) (j : Nat) : List (List Int) := renL [] (ts.take j)
theorem renL_snoc : ∀ (ts : List (List Int)) (s t : List Int), renL s (ts ++ [t]) = renL s ts ++ [t.map (codeI (seenS (ts.foldl seenS s) t))]
  | [], s, t => rfl
  | u :: ts, s, t => by
    simp only [List.cons_append, renL, List.foldl_cons]
    rw [renL_snoc ts]
theorem renL_len : ∀ (ts : List (List Int)) (s : List Int), (renL s ts).length = ts.length
  | [], _ => rfl
  | t :: ts, s => by simp [renL, renL_len ts]
theorem renT_len (ts : List (List Int)) (j : Nat) (h : j ≤ ts.length) : (renT ts j).length = j := by unfold renT; rw [renL_len]; simp; omega
theorem renT_all (ts : List (List Int)) (j : Nat) (h : ts.length ≤ j) : renT ts j = renL [] ts := by unfold renT; rw [List.take_of_length_le h]
theorem renT_succ (ts : List (List Int)) (j : Nat) (h : j < ts.length) : renT ts (j + 1) = renT ts j ++ [(ts.getD j default).map (codeI (seenS (seenT ts j) (ts.getD j default)))] := by
  unfold renT seenT
  rw [List.take_succ_eq_append_getElem h, renL_snoc]
  simp [List.getD, List.getElem?_eq_getElem h]
theorem seenT_succ (ts : List (List Int)) (j : Nat) (h : j < ts.length) : seenT ts (j + 1) = seenS (seenT ts j) (ts.getD j default) := by
  unfold seenT
  rw [List.take_succ_eq_append_getElem h, List.foldl_append]
  simp [List.getD, List.getElem?_eq_getElem h]
theorem seenS_snoc : ∀ (l s : List Int) (n : Int), seenS s (l ++ [n]) = if 0 ≤ n ∨ n ∈ seenS s l then seenS s l else seenS s l ++ [n]
  | [], s, n => rfl
  | m :: l, s, n => by
    simp only [List.cons_append, seenS]
    split
    · exact seenS_snoc l s n
    · exact seenS_snoc l (s ++ [m]) n
def mixS (s t : List Int) (i : Nat) : List Int := (t.take i).map (codeI (seenS s (t.take i))) ++ t.drop i
theorem mixS_len (s t : List Int) (i : Nat) (h : i ≤ t.length) : (mixS s t i).length = t.length := by simp [mixS]; omega
theorem mixS_split (s t : List Int) (i : Nat) (h : i < t.length) : mixS s t i = (t.take i).map (codeI (seenS s (t.take i))) ++ t.getD i default :: t.drop (i + 1) := by
  unfold mixS
  rw [drop_cons h]
theorem mixS_get (s t : List Int) (i : Nat) (h : i < t.length) : (mixS s t i).getD i default = t.getD i default := by
  rw [mixS_split s t i h]
  have : ((t.take i).map (codeI (seenS s (t.take i)))).length = i := by simp; omega
  have h2 := getD_app (q := (t.take i).map (codeI (seenS s (t.take i)))) (x := t.getD i default) (s := t.drop (i + 1))
  rwa [this] at h2
theorem mixS_all (s t : List Int) (i : Nat) (h : t.length ≤ i) : mixS s t i = t.map (codeI (seenS s t)) ∧ seenS s (t.take i) = seenS s t := by
  unfold mixS
  rw [List.take_of_length_le h, List.drop_of_length_le h, List.append_nil]
  exact ⟨rfl, rfl⟩
theorem seen_take (s t : List Int) (i : Nat) (h : i < t.length) : seenS s (t.take (i + 1)) = if 0 ≤ t.getD i default ∨ t.getD i default ∈ seenS s (t.take i) then seenS s (t.take i) else seenS s (t.take i) ++ [t.getD i default] := by
  have e : t.take (i + 1) = t.take i ++ [t.getD i default] := by
    rw [List.take_succ_eq_append_getElem h]; simp [List.getD, List.getElem?_eq_getElem h]
  rw [e, seenS_snoc]
theorem mixS_succ (s t : List Int) (i : Nat) (h : i < t.length) : mixS s t (i + 1) = (t.take i).map (codeI (seenS s (t.take i))) ++ codeI (seenS s (t.take (i + 1))) (t.getD i default) :: t.drop (i + 1) := by
  have e : t.take (i + 1) = t.take i ++ [t.getD i default] := by
    rw [List.take_succ_eq_append_getElem h]; simp [List.getD, List.getElem?_eq_getElem h]
  have hpre : ∃ r, seenS s (t.take (i + 1)) = seenS s (t.take i) ++ r := by
    rw [seen_take s t i h]
    split
    · exact ⟨[], by simp⟩
    · exact ⟨_, rfl⟩
  obtain ⟨r, hr⟩ := hpre
  have e2 : (t.take (i + 1)).map (codeI (seenS s (t.take (i + 1)))) = (t.take i).map (codeI (seenS s (t.take i))) ++ [codeI (seenS s (t.take (i + 1))) (t.getD i default)] := by
    conv => lhs; arg 2; rw [e]
    rw [List.map_append]
    congr 1
    rw [hr]; exact code_all
  unfold mixS
  rw [e2, List.append_assoc]; rfl
theorem mixS_stay (s t : List Int) (i : Nat) (h : i < t.length) (h0 : 0 ≤ t.getD i default) : mixS s t (i + 1) = mixS s t i := by
  rw [mixS_succ s t i h, mixS_split s t i h]
  rw [show codeI (seenS s (t.take (i + 1))) (t.getD i default) = t.getD i default from if_pos h0]
theorem len_app_set (a : List Int) (k : Nat) (b : List Int) {x y : Int} (h : a.length = k) : (a ++ x :: b).set k y = a ++ y :: b := by
  subst h
  induction a with
  | nil => rfl
  | cons c a ih => simp [ih]
theorem mixS_set (s t : List Int) (i : Nat) (h : i < t.length) : (mixS s t i).set i (codeI (seenS s (t.take (i + 1))) (t.getD i default)) = mixS s t (i + 1) := by
  rw [mixS_succ s t i h, mixS_split s t i h, len_app_set _ _ _ (by simp; omega)]
theorem fidx_idx (n : Int) : ∀ xs : List Int, (n ∈ xs → fidx (fun x => x = n) xs = (xs.idxOf n : Int)) ∧ (n ∉ xs → fidx (fun x => x = n) xs = -1) := fun xs => by
  constructor
  · intro h
    have hlt := List.idxOf_lt_length_of_mem h
    have hget : xs.getD (xs.idxOf n) default = n := by simp [List.getD, List.getElem?_eq_getElem hlt]
    refine fidx_at (p := fun x => x = n) (fun j hj e => ?_) hlt hget
    have hjl : j < xs.length := by omega
    have : xs[j] = n := by rw [← e]; simp [List.getD, List.getElem?_eq_getElem hjl]
    have := List.not_of_lt_findIdx (p := (· == n)) (xs := xs) (i := j) hj
    simp_all
  · intro h
    exact fidx_none (p := fun x => x = n) fun j hj e => h (e ▸ getD_mem xs j hj)
theorem seenS_len : ∀ (t s : List Int), (seenS s t).length ≤ s.length + t.length
  | [], s => by simp [seenS]
  | n :: l, s => by
    simp only [seenS]
    split
    · have := seenS_len l s; simp only [List.length_cons]; omega
    · have := seenS_len l (s ++ [n]); simp only [List.length_append, List.length_cons, List.length_nil] at this ⊢; omega
theorem seenT_len (ts : List (List Int)) (h : ∀ t ∈ ts, t.length ≤ 60) : ∀ j, j ≤ ts.length → (seenT ts j).length ≤ 60 * j
  | 0, _ => by simp [seenT]
  | j + 1, hj => by
    have ih := seenT_len ts h j (by omega)
    have h1 := seenS_len (ts.getD j default) (seenT ts j)
    have h2 := h _ (getD_mem ts j (by omega))
    rw [seenT_succ ts j (by omega)]
    omega
def kp61 : List (Nat × List Nat) := [(0, [0]), (1, [0, 3]), (2, [0, 3, 4]), (3, [3, 4, 11, 12, 13]), (4, [3, 4, 11, 12, 13, 14]), (5, [3, 4, 6, 11, 12, 13]), (6, [3, 4, 7, 11, 12, 13]), (7, [3, 4, 7, 11, 12, 13, 19, 20, 21]), (8, [3, 4, 7, 11, 12, 13, 19, 20, 21, 22]), (9, [3, 4, 7, 8, 9, 11, 12, 13, 19, 20, 21]), (10, [3, 4, 7, 8, 9, 11, 12, 13, 19, 20, 21, 27]), (11, [3, 4, 7, 8, 9, 10, 11, 12, 13, 19, 20, 21]), (12, [3, 4, 7, 8, 9, 10, 11, 12, 13, 19, 20, 21, 32]), (13, [3, 4, 7, 8, 9, 10, 11, 12, 13, 19, 20, 21]), (14, [3, 4, 7, 8, 10, 11, 12, 13, 19, 20, 21]), (15, [3, 4, 7, 11, 12, 13, 19, 20, 21]), (16, [3, 4, 7, 11, 12, 13, 19, 20, 21]), (17, [3, 4, 11, 12, 13]), (18, [3, 4, 11, 12, 13]), (19, [2])]
attribute [go_sem] kp61
theorem renumber_fc (tk : Tk) (ts : List (List Int)) (hn : ts.length ≤ 100) (ht : ∀ t ∈ ts, 1 ≤ t.length ∧ t.length ≤ 60) : FC S 61 [] [] [] [.sl tk (ts.map IntsD)] (.sl .any ((renL [] ts).map IntsD)) [] [] := by
  have hsl := seenT_len ts fun t h => (ht t h).2
  refine FC.args (args' := [.sl .any (ts.map IntsD)]) ?_ (by simp only [go_sem])
  refine fc_body Try.func61 rfl (by kernel_rfl) (by simp [Try.f61]) fun B => ?_
  simp only [Try.ntmps61, enumD, List.map_nil, List.map_cons, List.length_map, Nat.zero_add, Nat.reduceAdd]
  refine sw_bnd 0 rfl fun hb0 => ?_
  simp only [D.bnd, List.length_map] at hb0
  repeat' first
    | exact Bool.noConfusion h
    | refine sw_seq ?_
    | refine sw_block ?_
    | refine sw_skip ?_
    | refine sw_inBlock ?_
    | refine sw_go 0 kp61 fun K hK => ?_
    | refine fun (K : List Oper → LS → Prop) (hK : KOk S 0 _ _ _ K) => ?_
    | ((first | refine runL_go ?_ | refine runQ_go ?_); simp (disch := (refine Om.mk ?_; omega)) only [go_sem])
    | (refine hK.nil ?_; clear hK K; simp only [go_sem])
    | (refine sw_cond rfl (fun h => ?_) (fun h => ?_) <;> (try simp (disch := (refine Om.mk ?_; omega)) only [go_sem] at h))
    | (refine sw_exit rfl ?_)
    | (refine sw_loopEnd ?_)
    | ((first | refine sw_ret (ret0 ?_) | refine sw_ret ?_); simp (disch := (refine Om.mk ?_; omega)) only [go_sem, Try.results61])
    | (with_reducible refine And.intro (by first | omega | (simp only [List.length_append, List.length_take, List.length_drop, List.length_cons, List.length_nil, List.length_map]; omega)) ?_)
    | ((with_reducible refine And.intro ?_ ?_); · first | (intro x hx; subst hx; rfl) | exact upR_mem fun _ _ => rfl | exact mapR_mem fun _ _ => rfl | (intro x; refine And.intro ?_ ?_ <;> (intros; subst_vars; rfl)))
    | fail
  refine sw_tok 3 39000 2 1 rfl (.inl rfl) rfl ?_
  simp only [go_sem]
  refine sw_tok 4 49000 24 1 rfl (.inl rfl) rfl ?_
  simp only [go_sem]
  refine sw_loopT (ι := Nat) (fun j => [(13, .int .i64 j), (3, .sl (.own 39000 2 1) ((seenT ts j).map (.int .i64))), (4, .sl (.own 49000 24 1) ((renT ts j).map IntsD))]) (fun _ => []) (fun _ => [49000, 39000]) (fun j => j ≤ ts.length) (fun j => ts.length - j) 0 (by (refine covers_mk0 rfl rfl ?_ ?_ ?_ ?_ <;> simp (disch := (refine Om.mk ?_; omega)) only [go_sem] <;> (try omega)); exact ⟨rfl, rfl, rfl⟩) (by omega) (fun j hj => ?_)
  simp only [go_sem]
  have hsj := hsl j hj
  rcases Nat.lt_or_ge j ts.length with hjl | hjl
  · have htj := ht _ (getD_mem ts j hjl)
    have hrs := renT_succ ts j hjl
    have hss := seenT_succ ts j hjl
    generalize hs0 : seenT ts j = s at hsj hrs hss
    have hne : ts.getD j default ≠ [] := fun e => by rw [e] at htj; simp at htj
    have hll := renT_len ts j hj
    repeat' first
      | exact Bool.noConfusion h
      | refine sw_seq ?_
      | refine sw_block ?_
      | refine sw_skip ?_
      | refine sw_inBlock ?_
      | refine sw_go 0 kp61 fun K hK => ?_
      | refine fun (K : List Oper → LS → Prop) (hK : KOk S 0 _ _ _ K) => ?_
      | ((first | refine runL_go ?_ | refine runQ_go ?_); simp (disch := (refine Om.mk ?_; omega)) only [go_sem])
      | (refine hK.nil ?_; clear hK K; simp only [go_sem])
      | (refine sw_cond rfl (fun h => ?_) (fun h => ?_) <;> (try simp (disch := (refine Om.mk ?_; omega)) only [go_sem] at h))
      | (refine sw_exit rfl ?_)
      | (refine sw_loopEnd ?_)
      | ((first | refine sw_ret (ret0 ?_) | refine sw_ret ?_); simp (disch := (refine Om.mk ?_; omega)) only [go_sem, Try.results61])
      | (refine hK.callT rfl rfl rfl (cloneOwn_fc .any (ts.getD j default) (by omega)) ⟨⟨by simp only [Nat.reduceLT], by simp, by simp [Lg.look]⟩, by assumption⟩ ?_; simp (disch := (refine Om.mk ?_; omega)) only [go_sem])
      | (with_reducible refine And.intro (by first | omega | (simp only [List.length_append, List.length_take, List.length_drop, List.length_cons, List.length_nil, List.length_map]; omega)) ?_)
      | ((with_reducible refine And.intro ?_ ?_); · first | (intro x hx; subst hx; rfl) | exact upR_mem fun _ _ => rfl | exact mapR_mem fun _ _ => rfl | (intro x; refine And.intro ?_ ?_ <;> (intros; subst_vars; rfl)))
      | fail
    · refine sw_loopT (ι := Nat) (fun i => [(21, .int .i64 i), (3, .sl (.own 39000 2 1) ((seenS s ((ts.getD j default).take i)).map (.int .i64)))]) (fun i => [(18, (mixS s (ts.getD j default) i).map (.int .i64))]) (fun _ => [39000, 49000]) (fun i => i ≤ (ts.getD j default).length) (fun i => (ts.getD j default).length - i) 0 (by (refine covers_mk0 rfl rfl ?_ ?_ ?_ ?_ <;> simp (disch := (refine Om.mk ?_; omega)) only [go_sem] <;> (try omega)); all_goals first | exact ⟨rfl, rfl⟩ | simp [mixS]) (by omega) (fun i hi => ?_)
      simp only [go_sem]
      have hml := mixS_len s (ts.getD j default) i hi
      have hmg := mixS_get s (ts.getD j default) i
      have hms := mixS_stay s (ts.getD j default) i
      have hmt := mixS_set s (ts.getD j default) i
      have hst := seen_take s (ts.getD j default) i
      have hsn := seenS_len ((ts.getD j default).take i) s
      have htk : ((ts.getD j default).take i).length ≤ 60 := by simp; omega
      have hfx := fidx_idx ((mixS s (ts.getD j default) i).getD i default) (seenS s ((ts.getD j default).take i))
      have hfr : -1 ≤ fidx (fun x => x = (mixS s (ts.getD j default) i).getD i default) (seenS s ((ts.getD j default).take i)) ∧ fidx (fun x => x = (mixS s (ts.getD j default) i).getD i default) (seenS s ((ts.getD j default).take i)) ≤ 10000 := by
        by_cases hm : (mixS s (ts.getD j default) i).getD i default ∈ seenS s ((ts.getD j default).take i)
        · have := List.idxOf_lt_length_of_mem hm
          rw [hfx.1 hm]; omega
        · rw [hfx.2 hm]; omega
      repeat' first
        | (refine sw_freezeAt1 17 7 1 .any ((mixS s (ts.getD j default) i).map (.int .i64)) rfl rfl (flat_ints _).symm (by rw [List.length_map, hml]) (cells_one fun _ => rfl) (memOk_ints _) (.inl rfl) ?_; simp only [go_sem])
        | exact Bool.noConfusion h
        | refine sw_seq ?_
        | refine sw_block ?_
        | refine sw_skip ?_
        | refine sw_inBlock ?_
        | refine sw_go 0 kp61 fun K hK => ?_
        | refine fun (K : List Oper → LS → Prop) (hK : KOk S 0 _ _ _ K) => ?_
        | ((first | refine runL_go ?_ | refine runQ_go ?_); simp (disch := (refine Om.mk ?_; omega)) only [go_sem])
        | (refine hK.nil ?_; clear hK K; simp only [go_sem])
        | (refine sw_cond rfl (fun h => ?_) (fun h => ?_) <;> (try simp (disch := (refine Om.mk ?_; omega)) only [go_sem] at h))
        | (refine sw_exit rfl ?_)
        | (refine sw_loopEnd ?_)
        | ((first | refine sw_ret (ret0 ?_) | refine sw_ret ?_); simp (disch := (refine Om.mk ?_; omega)) only [go_sem, Try.results61])
        | refine hK.call rfl rfl rfl (index_fc _ _ _) ⟨(by intro p hp; cases hp), rfl, rfl, (by simp only [dstOk, Nat.reduceLT])⟩ ?_
        | (with_reducible refine And.intro (by first | omega | (simp only [List.length_append, List.length_take, List.length_drop, List.length_cons, List.length_nil, List.length_map]; omega)) ?_)
        | ((with_reducible refine And.intro ?_ ?_); · first | (intro x hx; subst hx; rfl) | exact upR_mem fun _ _ => rfl | exact mapR_mem fun _ _ => rfl | (intro x; refine And.intro ?_ ?_ <;> (intros; subst_vars; rfl)))
        | fail
      · rw [hmg (by omega)] at h
        refine ⟨i + 1, (by (refine covers_mk0 rfl rfl ?_ ?_ ?_ ?_ <;> simp (disch := (refine Om.mk ?_; omega)) only [go_sem] <;> (try omega)); all_goals first | (rw [hst (by omega), if_pos (.inl h)]; exact ⟨rfl, by omega⟩) | rw [hms (by omega) h]), by omega, by omega⟩
      · rw [hmg (by omega)] at *
        have hnm : (ts.getD j default).getD i default ∉ seenS s ((ts.getD j default).take i) := fun hm => by rw [hfx.1 hm] at h; omega
        have hst := hst (by omega)
        rw [if_neg (by rintro (h1 | h1); omega; exact hnm h1)] at hst
        have hmt := hmt (by omega)
        rw [hst, code_new (by assumption) hnm] at hmt
        refine ⟨i + 1, (by (refine covers_mk0 rfl rfl ?_ ?_ ?_ ?_ <;> simp (disch := (refine Om.mk ?_; omega)) only [go_sem] <;> (try omega)); all_goals first | (rw [hst]; exact ⟨rfl, by omega⟩) | (rw [← hmt]) | (simp; done)), by omega, by omega⟩
      · rw [hmg (by omega)] at *
        have hm : (ts.getD j default).getD i default ∈ seenS s ((ts.getD j default).take i) := Classical.byContradiction fun hn => by rw [hfx.2 hn] at h; omega
        have hst := hst (by omega)
        rw [if_pos (.inr hm)] at hst
        have hmt := hmt (by omega)
        rw [hst, code_old (by assumption), ← hfx.1 hm] at hmt
        refine ⟨i + 1, (by (refine covers_mk0 rfl rfl ?_ ?_ ?_ ?_ <;> simp (disch := (refine Om.mk ?_; omega)) only [go_sem] <;> (try omega)); all_goals first | (rw [hst]; exact ⟨rfl, by omega⟩) | (rw [← hmt]) | (simp; done)), by omega, by omega⟩
      · obtain ⟨e1, e2⟩ := mixS_all s (ts.getD j default) i (by omega)
        refine ⟨j + 1, (by (refine covers_mk0 rfl rfl ?_ ?_ ?_ ?_ <;> simp (disch := (refine Om.mk ?_; omega)) only [go_sem] <;> (try omega)); all_goals first | (rw [e1, e2, hrs, hss, List.map_append]; exact ⟨rfl, rfl, by omega⟩) | (simp; done)), by omega, by omega⟩
    · rw [renT_all ts j (by omega)]
  · repeat' first
      | exact Bool.noConfusion h
      | refine sw_seq ?_
      | refine sw_block ?_
      | refine sw_skip ?_
      | refine sw_inBlock ?_
      | refine sw_go 0 kp61 fun K hK => ?_
      | refine fun (K : List Oper → LS → Prop) (hK : KOk S 0 _ _ _ K) => ?_
      | ((first | refine runL_go ?_ | refine runQ_go ?_); simp (disch := (refine Om.mk ?_; omega)) only [go_sem])
      | (refine hK.nil ?_; clear hK K; simp only [go_sem])
      | (refine sw_cond rfl (fun h => ?_) (fun h => ?_) <;> (try simp (disch := (refine Om.mk ?_; omega)) only [go_sem] at h))
      | (refine sw_exit rfl ?_)
      | (refine sw_loopEnd ?_)
      | ((first | refine sw_ret (ret0 ?_) | refine sw_ret ?_); simp (disch := (refine Om.mk ?_; omega)) only [go_sem, Try.results61])
      | (with_reducible refine And.intro (by first | omega | (simp only [List.length_append, List.length_take, List.length_drop, List.length_cons, List.length_nil, List.length_map]; omega)) ?_)
      | ((with_reducible refine And.intro ?_ ?_); · first | (intro x hx; subst hx; rfl) | exact upR_mem fun _ _ => rfl | exact mapR_mem fun _ _ => rfl | (intro x; refine And.intro ?_ ?_ <;> (intros; subst_vars; rfl)))
      | fail
    · exfalso; omega
    · rw [renT_all ts j (by omega)]
end Go.Proofs.Ytfokjjlbdaabaaa
