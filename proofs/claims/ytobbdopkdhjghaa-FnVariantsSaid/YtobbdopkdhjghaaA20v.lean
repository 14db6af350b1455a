/-
  Variants of equations, both sides.
-/
import Derived.Test.YtobbdopkdhjghaaA04
import Derived.Test.YtobbdopkdhjghaaA20
namespace Go.Proofs.Ytobbdopkdhjghaa
open Go Go.Lg
set_option linter.unusedSimpArgs false
set_option linter.unusedVariables false
set_option maxHeartbeats 4000000
attribute [local irreducible] SW runL runQ runG runQG FC Ret1
theorem sw_freezeAt1 {B : Base} {R : LS → Prop} {k : List VItem} {L : LS} (rid t s : Nat) (tk : Tk) {id n : Nat} {cs : List D} (xs : List D) {ops : Array Oper} {dr : Bool} (ht : Lg.look L.env t = some (.ms id n)) (hb : Lg.look L.boxes id = some cs) (hx : cs = flat xs) (hn : n = xs.length)
    (hu : ∀ x ∈ xs, x.cells.length = s) (hk : ∀ d ∈ cs, d.memOk = true) (htk : tk = .any ∨ tk = .nn) (hh : SW S B R (.code (.region rid ops dr) :: k) { L with env := setA L.env t (.sl tk xs), boxes := eraseK id L.boxes }) : SW S B R (.code (.region rid ops dr) :: k) L :=
  sw_freeze t s tk xs ht hb hx hn hu hk htk hh
theorem bool_tst {b : Bool} {p : Prop} (h : b = true ↔ p) : b = tst p := by
  cases b with
  | true => exact (tst_true (h.1 rfl)).symm
  | false => exact (tst_false fun hp => by cases h.2 hp).symm
theorem G0_len : G0.length = 24 := rfl
theorem match2_spec {rs a b c d : List Int} (ha : TermOkP rs a) (hb : TermOkP rs b) (hc : TermOkP rs c) (hd : TermOkP rs d) :
    ((specM rs 60 G0 a c).2 = true ∧ (specM rs 60 (specM rs 60 G0 a c).1 b d).2 = true) ↔ match2 rs a b c d := by
  obtain ⟨h1, h2⟩ := specM_lin G0 ha hc ha.2.1.2
  unfold match2
  constructor
  · rintro ⟨k1, k2⟩
    obtain ⟨h3, _⟩ := specM_lin (specM rs 60 G0 a c).1 hb hd hb.2.1.2
    rw [h2 k1] at h3 k2
    exact ⟨by rw [← h1]; exact k1, by rw [← h3]; exact k2⟩
  · rintro ⟨k1, k2⟩
    have k1' : (specM rs 60 G0 a c).2 = true := by rw [h1]; exact k1
    obtain ⟨h3, _⟩ := specM_lin (specM rs 60 G0 a c).1 hb hd hb.2.1.2
    exact ⟨k1', by rw [h3, h2 k1']; exact k2⟩
def kp149 : List (Nat × List Nat) := [(0, [1, 2, 3, 4, 5]), (1, [1, 2, 3, 4, 5, 11, 12]), (2, [1, 2, 3, 4, 5, 11, 28]), (3, [10]), (4, [1, 2, 3, 4, 5, 14]), (5, [1, 2, 3, 4, 5, 38]), (6, [10]), (7, [2, 4, 5, 15, 16]), (8, [2, 4, 5, 15, 48]), (9, [10]), (10, [18]), (11, [10])]
attribute [go_sem] kp149
theorem l20Variant_fc (tk tk1 tk2 tk3 tk4 : Tk) (rs a b c d : List Int) (ha : TermOkP rs a) (hb : TermOkP rs b) (hc : TermOkP rs c) (hd : TermOkP rs d) : FC S 149 [] [] [] [.agg [.sl tk (rs.map (.int .i64))], .sl tk1 (a.map (.int .i64)), .sl tk2 (b.map (.int .i64)), .sl tk3 (c.map (.int .i64)), .sl tk4 (d.map (.int .i64))] (.bool (tst (match2 rs a b c d ∧ match2 rs c d a b))) [] [] := by
  have h1 := match2_spec ha hb hc hd
  have h2 := match2_spec hc hd ha hb
  rw [← h1, ← h2]
  have l1 := specM_len rs 60 G0 a c
  have l2 := specM_len rs 60 G0 c a
  rw [G0_len] at l1 l2
  refine FC.args (args' := [.agg [.sl .any (rs.map (.int .i64))], .sl .any (a.map (.int .i64)), .sl .any (b.map (.int .i64)), .sl .any (c.map (.int .i64)), .sl .any (d.map (.int .i64))]) ?_ (by simp only [go_sem, Nat.reduceAdd, Nat.reduceMul, Nat.reduceLT, Nat.reduceLeDiff, Nat.reduceEqDiff, Nat.reduceBEq, Nat.reduceSub, ↓reduceIte, reduceCtorEq])
  refine fc_body Try.func149 rfl (by kernel_rfl) (by simp [Try.f149]) fun B => ?_
  simp only [Try.ntmps149, enumD, List.map_nil, List.map_cons, List.length_map, Nat.zero_add, Nat.reduceAdd]
  repeat' first
    | exact Bool.noConfusion h
    | refine sw_seq ?_
    | refine sw_block ?_
    | refine sw_skip ?_
    | refine sw_inBlock ?_
    | refine sw_go 0 kp149 fun K hK => ?_
    | refine fun (K : List Oper → LS → Prop) (hK : KOk S 0 _ _ _ K) => ?_
    | refine sw_goD kp149 (by kernel_rfl) fun K hK => ?_
    | ((first | refine runL_go ?_ | refine runQ_go ?_); simp (disch := (refine Om.mk ?_; omega)) only [go_sem, Nat.reduceAdd, Nat.reduceMul, Nat.reduceLT, Nat.reduceLeDiff, Nat.reduceEqDiff, Nat.reduceBEq, Nat.reduceSub, ↓reduceIte, reduceCtorEq])
    | (refine hK.nil ?_; clear hK K; simp only [go_sem, Nat.reduceAdd, Nat.reduceMul, Nat.reduceLT, Nat.reduceLeDiff, Nat.reduceEqDiff, Nat.reduceBEq, Nat.reduceSub, ↓reduceIte, reduceCtorEq])
    | (refine sw_cond rfl (fun h => ?_) (fun h => ?_) <;> (try simp (disch := (refine Om.mk ?_; omega)) only [go_sem, Nat.reduceAdd, Nat.reduceMul, Nat.reduceLT, Nat.reduceLeDiff, Nat.reduceEqDiff, Nat.reduceBEq, Nat.reduceSub, ↓reduceIte, reduceCtorEq] at h))
    | (refine sw_exit rfl ?_)
    | (refine sw_loopEnd ?_)
    | ((first | refine sw_ret (ret0 ?_) | refine sw_ret ?_); simp (disch := (refine Om.mk ?_; omega)) only [go_sem, Nat.reduceAdd, Nat.reduceMul, Nat.reduceLT, Nat.reduceLeDiff, Nat.reduceEqDiff, Nat.reduceBEq, Nat.reduceSub, ↓reduceIte, reduceCtorEq, Try.results149])
    | refine hK.call rfl rfl rfl (l20Match_fc rs 60 .any .any .any .any G0 a c ha hc G0_len ha.2.1.2) ⟨(by intro p hp; cases hp), rfl, rfl, (by simp only [dstOk, Nat.reduceLT])⟩ ?_
    | refine hK.call rfl rfl rfl (l20Match_fc rs 60 .any .any .any .any _ b d hb hd l1 hb.2.1.2) ⟨(by intro p hp; cases hp), rfl, rfl, (by simp only [dstOk, Nat.reduceLT])⟩ ?_
    | refine hK.call rfl rfl rfl (l20Match_fc rs 60 .any .any .any .any G0 c a hc ha G0_len hc.2.1.2) ⟨(by intro p hp; cases hp), rfl, rfl, (by simp only [dstOk, Nat.reduceLT])⟩ ?_
    | refine hK.call rfl rfl rfl (l20Match_fc rs 60 .any .any .any .any _ d b hd hb l2 hd.2.1.2) ⟨(by intro p hp; cases hp), rfl, rfl, (by simp only [dstOk, Nat.reduceLT])⟩ ?_
    | (with_reducible refine And.intro (by first | omega | (simp only [List.length_append, List.length_take, List.length_drop, List.length_cons, List.length_nil, List.length_map]; omega)) ?_)
    | ((with_reducible refine And.intro ?_ ?_); · first | (intro x hx; subst hx; rfl) | exact upR_mem fun _ _ => rfl | exact mapR_mem fun _ _ => rfl | (intro x; refine And.intro ?_ ?_ <;> (intros; subst_vars; rfl)))
    | fail
  all_goals first
    | exact bool_tst ⟨fun h4 => ⟨⟨by assumption, by assumption⟩, by assumption, h4⟩, fun h4 => h4.2.2⟩
    | grind
def kp200 : List (Nat × List Nat) := [(0, [0]), (1, [0, 4]), (2, [2]), (3, [2])]
attribute [go_sem] kp200
theorem cloneOwn_fc (tk : Tk) (xs : List Int) (hl : xs.length ≤ 17592186044416) : FC S 200 [] [] [] [.sl tk (xs.map (.int .i64))] (.sl (.own 0 2 1) (xs.map (.int .i64))) [] [0] := by
  refine FC.args (args' := [.sl .any (xs.map (.int .i64))]) ?_ (by simp only [go_sem, Nat.reduceAdd, Nat.reduceMul, Nat.reduceLT, Nat.reduceLeDiff, Nat.reduceEqDiff, Nat.reduceBEq, Nat.reduceSub, ↓reduceIte, reduceCtorEq])
  refine fc_body1 Try.func200 rfl (by kernel_rfl) (by simp [Try.f200]) fun B => ?_
  simp only [Try.ntmps200, enumD, List.map_nil, List.map_cons, List.length_map, Nat.zero_add, Nat.reduceAdd]
  refine sw_bnd 0 rfl fun hb0 => ?_
  simp only [D.bnd, List.length_map] at hb0
  refine sw_nilcase 0 rfl (fun hx => ?_) ?_ <;> simp only [go_sem, Nat.reduceAdd, Nat.reduceMul, Nat.reduceLT, Nat.reduceLeDiff, Nat.reduceEqDiff, Nat.reduceBEq, Nat.reduceSub, ↓reduceIte, reduceCtorEq]
  · have hx : xs = [] := by simpa using hx
    subst hx
    repeat' first
      | (refine sw_tok 2 5000 2 1 rfl (.inl rfl) rfl ?_; simp only [go_sem, Nat.reduceAdd, Nat.reduceMul, Nat.reduceLT, Nat.reduceLeDiff, Nat.reduceEqDiff, Nat.reduceBEq, Nat.reduceSub, ↓reduceIte, reduceCtorEq])
      | exact Bool.noConfusion h
      | refine sw_seq ?_
      | refine sw_block ?_
      | refine sw_skip ?_
      | refine sw_inBlock ?_
      | refine sw_go 0 kp200 fun K hK => ?_
      | refine fun (K : List Oper → LS → Prop) (hK : KOk S 0 _ _ _ K) => ?_
      | ((first | refine runL_go ?_ | refine runQ_go ?_); simp (disch := (refine Om.mk ?_; omega)) only [go_sem, Nat.reduceAdd, Nat.reduceMul, Nat.reduceLT, Nat.reduceLeDiff, Nat.reduceEqDiff, Nat.reduceBEq, Nat.reduceSub, ↓reduceIte, reduceCtorEq])
      | (refine hK.nil ?_; clear hK K; simp only [go_sem, Nat.reduceAdd, Nat.reduceMul, Nat.reduceLT, Nat.reduceLeDiff, Nat.reduceEqDiff, Nat.reduceBEq, Nat.reduceSub, ↓reduceIte, reduceCtorEq])
      | (refine sw_cond rfl (fun h => ?_) (fun h => ?_) <;> (try simp (disch := (refine Om.mk ?_; omega)) only [go_sem, Nat.reduceAdd, Nat.reduceMul, Nat.reduceLT, Nat.reduceLeDiff, Nat.reduceEqDiff, Nat.reduceBEq, Nat.reduceSub, ↓reduceIte, reduceCtorEq] at h))
      | (refine sw_exit rfl ?_)
      | (refine sw_loopEnd ?_)
      | ((first | refine sw_ret (ret0 ?_) | refine sw_ret ?_); simp (disch := (refine Om.mk ?_; omega)) only [go_sem, Nat.reduceAdd, Nat.reduceMul, Nat.reduceLT, Nat.reduceLeDiff, Nat.reduceEqDiff, Nat.reduceBEq, Nat.reduceSub, ↓reduceIte, reduceCtorEq, Try.results200])
      | (with_reducible refine And.intro (by first | omega | (simp only [List.length_append, List.length_take, List.length_drop, List.length_cons, List.length_nil, List.length_map]; omega)) ?_)
      | ((with_reducible refine And.intro ?_ ?_); · first | (intro x hx; subst hx; rfl) | exact upR_mem fun _ _ => rfl | exact mapR_mem fun _ _ => rfl | (intro x; refine And.intro ?_ ?_ <;> (intros; subst_vars; rfl)))
      | fail
    exact ret1_own rfl (by simp)
  · repeat' first
      | exact Bool.noConfusion h
      | refine sw_seq ?_
      | refine sw_block ?_
      | refine sw_skip ?_
      | refine sw_inBlock ?_
      | refine sw_go 0 kp200 fun K hK => ?_
      | refine fun (K : List Oper → LS → Prop) (hK : KOk S 0 _ _ _ K) => ?_
      | ((first | refine runL_go ?_ | refine runQ_go ?_); simp (disch := (refine Om.mk ?_; omega)) only [go_sem, Nat.reduceAdd, Nat.reduceMul, Nat.reduceLT, Nat.reduceLeDiff, Nat.reduceEqDiff, Nat.reduceBEq, Nat.reduceSub, ↓reduceIte, reduceCtorEq])
      | (refine hK.nil ?_; clear hK K; simp only [go_sem, Nat.reduceAdd, Nat.reduceMul, Nat.reduceLT, Nat.reduceLeDiff, Nat.reduceEqDiff, Nat.reduceBEq, Nat.reduceSub, ↓reduceIte, reduceCtorEq])
      | (refine sw_cond rfl (fun h => ?_) (fun h => ?_) <;> (try simp (disch := (refine Om.mk ?_; omega)) only [go_sem, Nat.reduceAdd, Nat.reduceMul, Nat.reduceLT, Nat.reduceLeDiff, Nat.reduceEqDiff, Nat.reduceBEq, Nat.reduceSub, ↓reduceIte, reduceCtorEq] at h))
      | (refine sw_exit rfl ?_)
      | (refine sw_loopEnd ?_)
      | ((first | refine sw_ret (ret0 ?_) | refine sw_ret ?_); simp (disch := (refine Om.mk ?_; omega)) only [go_sem, Nat.reduceAdd, Nat.reduceMul, Nat.reduceLT, Nat.reduceLeDiff, Nat.reduceEqDiff, Nat.reduceBEq, Nat.reduceSub, ↓reduceIte, reduceCtorEq, Try.results200])
      | (with_reducible refine And.intro (by first | omega | (simp only [List.length_append, List.length_take, List.length_drop, List.length_cons, List.length_nil, List.length_map]; omega)) ?_)
      | ((with_reducible refine And.intro ?_ ?_); · first | (intro x hx; subst hx; rfl) | exact upR_mem fun _ _ => rfl | exact mapR_mem fun _ _ => rfl | (intro x; refine And.intro ?_ ?_ <;> (intros; subst_vars; rfl)))
      | fail
    exact ret1_own rfl (by simp)
theorem pu_ints (f : Nat → Bool) (ys : List Int) : (ys.map (D.int .i64)).map (D.pu1 f) = ys.map (.int .i64) := by
  rw [List.map_map]; rfl
theorem tksL_ints (ys : List Int) : D.tksL (ys.map (D.int .i64)) = [] := by
  induction ys with
  | nil => rfl
  | cons y r ih => simp only [List.map_cons, D.tksL, ih]; rfl
theorem idsL_ints (ys : List Int) : D.idsL (ys.map (D.int .i64)) = [] := by
  induction ys with
  | nil => rfl
  | cons y r ih => simp only [List.map_cons, D.idsL, ih]; rfl
attribute [local go_sem] pu_ints tksL_ints idsL_ints
theorem code_new {s : List Int} {x : Int} (h0 : x < 0) (h : x ∉ s) : codeI (s ++ [x]) x = -1 - (s.length : Int) := by
  unfold codeI
  rw [if_neg (by omega), List.idxOf_append, if_neg h]
  simp
theorem code_old {s : List Int} {x : Int} (h0 : x < 0) : codeI s x = -1 - (s.idxOf x : Int) := by
  unfold codeI
  rw [if_neg (by omega)]
def seenT (ts : List (List Int)) (j : Nat) : List Int := (ts.take j).foldl seenS []
def renT (ts : List (List Int)) (j : Nat) : List (List Int) := renL [] (ts.take j)
theorem renL_snoc : ∀ (ts : List (List Int)) (s t : List Int), renL s (ts ++ [t]) = renL s ts ++ [t.map (codeI (seenS (ts.foldl seenS s) t))]
  | [], s, t => rfl
  | u :: ts, s, t => by
    simp only [List.cons_append, renL, List.foldl_cons]
    rw [renL_snoc ts]
theorem renL_len : ∀ (ts : List (List Int)) (s : List Int), (renL s ts).length = ts.length
  | [], _ => rfl
  | t :: ts, s => by simp [renL, renL_len ts]
theorem renT_len (ts : List (List Int)) (j : Nat) (h : j ≤ ts.length) : (renT ts j).length = j := by unfold renT; rw [renL_len]; simp; omega
theorem renT_all (ts : List (List Int)) (j : Nat) (h : ts.length ≤ j) : renT ts j = renL [] ts := by unfold renT; rw [List.take_of_length_le h]
theorem renT_succ (ts : List (List Int)) (j : Nat) (h : j < ts.length) : renT ts (j + 1) = renT ts j ++ [(ts.getD j default).map (codeI (seenS (seenT ts j) (ts.getD j default)))] := by
  unfold renT seenT
  rw [List.take_succ_eq_append_getElem h, renL_snoc]
  simp [List.getD, List.getElem?_eq_getElem h]
theorem seenT_succ (ts : List (List Int)) (j : Nat) (h : j < ts.length) : seenT ts (j + 1) = seenS (seenT ts j) (ts.getD j default) := by
  unfold seenT
  rw [List.take_succ_eq_append_getElem h, List.foldl_append]
  simp [List.getD, List.getElem?_eq_getElem h]
theorem seenS_snoc : ∀ (l s : List Int) (n : Int), seenS s (l ++ [n]) = if 0 ≤ n ∨ n ∈ seenS s l then seenS s l else seenS s l ++ [n]
  | [], s, n => rfl
  | m :: l, s, n => by
    simp only [List.cons_append, seenS]
    split
    · exact seenS_snoc l s n
    · exact seenS_snoc l (s ++ [m]) n
def mixS (s t : List Int) (i : Nat) : List Int := (t.take i).map (codeI (seenS s (t.take i))) ++ t.drop i
theorem mixS_len (s t : List Int) (i : Nat) (h : i ≤ t.length) : (mixS s t i).length = t.length := by simp [mixS]; omega
theorem mixS_split (s t : List Int) (i : Nat) (h : i < t.length) : mixS s t i = (t.take i).map (codeI (seenS s (t.take i))) ++ t.getD i default :: t.drop (i + 1) := by
  unfold mixS
  rw [drop_cons h]
theorem mixS_get (s t : List Int) (i : Nat) (h : i < t.length) : (mixS s t i).getD i default = t.getD i default := by
  rw [mixS_split s t i h]
  have : ((t.take i).map (codeI (seenS s (t.take i)))).length = i := by simp; omega
  have h2 := getD_app (q := (t.take i).map (codeI (seenS s (t.take i)))) (x := t.getD i default) (s := t.drop (i + 1))
  rwa [this] at h2
theorem mixS_all (s t : List Int) (i : Nat) (h : t.length ≤ i) : mixS s t i = t.map (codeI (seenS s t)) ∧ seenS s (t.take i) = seenS s t := by
  unfold mixS
  rw [List.take_of_length_le h, List.drop_of_length_le h, List.append_nil]
  exact ⟨rfl, rfl⟩
theorem seen_take (s t : List Int) (i : Nat) (h : i < t.length) : seenS s (t.take (i + 1)) = if 0 ≤ t.getD i default ∨ t.getD i default ∈ seenS s (t.take i) then seenS s (t.take i) else seenS s (t.take i) ++ [t.getD i default] := by
  have e : t.take (i + 1) = t.take i ++ [t.getD i default] := by
    rw [List.take_succ_eq_append_getElem h]; simp [List.getD, List.getElem?_eq_getElem h]
  rw [e, seenS_snoc]
theorem mixS_succ (s t : List Int) (i : Nat) (h : i < t.length) : mixS s t (i + 1) = (t.take i).map (codeI (seenS s (t.take i))) ++ codeI (seenS s (t.take (i + 1))) (t.getD i default) :: t.drop (i + 1) := by
  have e : t.take (i + 1) = t.take i ++ [t.getD i default] := by
    rw [List.take_succ_eq_append_getElem h]; simp [List.getD, List.getElem?_eq_getElem h]
  have hpre : ∃ r, seenS s (t.take (i + 1)) = seenS s (t.take i) ++ r := by
    rw [seen_take s t i h]
    split
    · exact ⟨[], by simp⟩
    · exact ⟨_, rfl⟩
  obtain ⟨r, hr⟩ := hpre
  have e2 : (t.take (i + 1)).map (codeI (seenS s (t.take (i + 1)))) = (t.take i).map (codeI (seenS s (t.take i))) ++ [codeI (seenS s (t.take (i + 1))) (t.getD i default)] := by
    conv => lhs; arg 2; rw [e]
    rw [List.map_append]
    congr 1
    rw [hr]; exact code_all
  unfold mixS
  rw [e2, List.append_assoc]; rfl
theorem mixS_stay (s t : List Int) (i : Nat) (h : i < t.length) (h0 : 0 ≤ t.getD i default) : mixS s t (i + 1) = mixS s t i := by
  rw [mixS_succ s t i h, mixS_split s t i h]
  rw [show codeI (seenS s (t.take (i + 1))) (t.getD i default) = t.getD i default from if_pos h0]
theorem len_app_set (a : List Int) (k : Nat) (b : List Int) {x y : Int} (h : a.length = k) : (a ++ x :: b).set k y = a ++ y :: b := by
  subst h
  induction a with
  | nil => rfl
  | cons c a ih => simp [ih]
theorem mixS_set (s t : List Int) (i : Nat) (h : i < t.length) : (mixS s t i).set i (codeI (seenS s (t.take (i + 1))) (t.getD i default)) = mixS s t (i + 1) := by
  rw [mixS_succ s t i h, mixS_split s t i h, len_app_set _ _ _ (by simp; omega)]
theorem fidx_idx (n : Int) : ∀ xs : List Int, (n ∈ xs → fidx (fun x => x = n) xs = (xs.idxOf n : Int)) ∧ (n ∉ xs → fidx (fun x => x = n) xs = -1) := fun xs => by
  constructor
  · intro h
    have hlt := List.idxOf_lt_length_of_mem h
    have hget : xs.getD (xs.idxOf n) default = n := by simp [List.getD, List.getElem?_eq_getElem hlt]
    refine fidx_at (p := fun x => x = n) (fun j hj e => ?_) hlt hget
    have hjl : j < xs.length := by omega
    have : xs[j] = n := by rw [← e]; simp [List.getD, List.getElem?_eq_getElem hjl]
    have := List.not_of_lt_findIdx (p := (· == n)) (xs := xs) (i := j) hj
    simp_all
  · intro h
    exact fidx_none (p := fun x => x = n) fun j hj e => h (e ▸ getD_mem xs j hj)
theorem seenS_len : ∀ (t s : List Int), (seenS s t).length ≤ s.length + t.length
  | [], s => by simp [seenS]
  | n :: l, s => by
    simp only [seenS]
    split
    · have := seenS_len l s; simp only [List.length_cons]; omega
    · have := seenS_len l (s ++ [n]); simp only [List.length_append, List.length_cons, List.length_nil] at this ⊢; omega
theorem seenT_len (ts : List (List Int)) (h : ∀ t ∈ ts, t.length ≤ 60) : ∀ j, j ≤ ts.length → (seenT ts j).length ≤ 60 * j
  | 0, _ => by simp [seenT]
  | j + 1, hj => by
    have ih := seenT_len ts h j (by omega)
    have h1 := seenS_len (ts.getD j default) (seenT ts j)
    have h2 := h _ (getD_mem ts j (by omega))
    rw [seenT_succ ts j (by omega)]
    omega
def kp147 : List (Nat × List Nat) := [(0, [0]), (1, [0, 3]), (2, [0, 3, 4]), (3, [3, 4, 11, 12, 13]), (4, [3, 4, 11, 12, 13, 14]), (5, [3, 4, 6, 11, 12, 13]), (6, [3, 4, 7, 11, 12, 13]), (7, [3, 4, 7, 11, 12, 13, 19, 20, 21]), (8, [3, 4, 7, 11, 12, 13, 19, 20, 21, 22]), (9, [3, 4, 7, 8, 9, 11, 12, 13, 19, 20, 21]), (10, [3, 4, 7, 8, 9, 11, 12, 13, 19, 20, 21, 27]), (11, [3, 4, 7, 8, 9, 10, 11, 12, 13, 19, 20, 21]), (12, [3, 4, 7, 8, 9, 10, 11, 12, 13, 19, 20, 21, 32]), (13, [3, 4, 7, 8, 9, 10, 11, 12, 13, 19, 20, 21]), (14, [3, 4, 7, 8, 10, 11, 12, 13, 19, 20, 21]), (15, [3, 4, 7, 11, 12, 13, 19, 20, 21]), (16, [3, 4, 7, 11, 12, 13, 19, 20, 21]), (17, [3, 4, 11, 12, 13]), (18, [3, 4, 11, 12, 13]), (19, [2])]
attribute [go_sem] kp147
theorem renumber_fc (tk : Tk) (ts : List (List Int)) (hn : ts.length ≤ 100) (ht : ∀ t ∈ ts, 1 ≤ t.length ∧ t.length ≤ 60) : FC S 147 [] [] [] [.sl tk (ts.map IntsD)] (.sl .any ((renL [] ts).map IntsD)) [] [] := by
  have hsl := seenT_len ts fun t h => (ht t h).2
  refine FC.args (args' := [.sl .any (ts.map IntsD)]) ?_ (by simp only [go_sem, Nat.reduceAdd, Nat.reduceMul, Nat.reduceLT, Nat.reduceLeDiff, Nat.reduceEqDiff, Nat.reduceBEq, Nat.reduceSub, ↓reduceIte, reduceCtorEq])
  refine fc_body Try.func147 rfl (by kernel_rfl) (by simp [Try.f147]) fun B => ?_
  simp only [Try.ntmps147, enumD, List.map_nil, List.map_cons, List.length_map, Nat.zero_add, Nat.reduceAdd]
  refine sw_bnd 0 rfl fun hb0 => ?_
  simp only [D.bnd, List.length_map] at hb0
  repeat' first
    | exact Bool.noConfusion h
    | refine sw_seq ?_
    | refine sw_block ?_
    | refine sw_skip ?_
    | refine sw_inBlock ?_
    | refine sw_go 0 kp147 fun K hK => ?_
    | refine fun (K : List Oper → LS → Prop) (hK : KOk S 0 _ _ _ K) => ?_
    | ((first | refine runL_go ?_ | refine runQ_go ?_); simp (disch := (refine Om.mk ?_; omega)) only [go_sem, Nat.reduceAdd, Nat.reduceMul, Nat.reduceLT, Nat.reduceLeDiff, Nat.reduceEqDiff, Nat.reduceBEq, Nat.reduceSub, ↓reduceIte, reduceCtorEq])
    | (refine hK.nil ?_; clear hK K; simp only [go_sem, Nat.reduceAdd, Nat.reduceMul, Nat.reduceLT, Nat.reduceLeDiff, Nat.reduceEqDiff, Nat.reduceBEq, Nat.reduceSub, ↓reduceIte, reduceCtorEq])
    | (refine sw_cond rfl (fun h => ?_) (fun h => ?_) <;> (try simp (disch := (refine Om.mk ?_; omega)) only [go_sem, Nat.reduceAdd, Nat.reduceMul, Nat.reduceLT, Nat.reduceLeDiff, Nat.reduceEqDiff, Nat.reduceBEq, Nat.reduceSub, ↓reduceIte, reduceCtorEq] at h))
    | (refine sw_exit rfl ?_)
    | (refine sw_loopEnd ?_)
    | ((first | refine sw_ret (ret0 ?_) | refine sw_ret ?_); simp (disch := (refine Om.mk ?_; omega)) only [go_sem, Nat.reduceAdd, Nat.reduceMul, Nat.reduceLT, Nat.reduceLeDiff, Nat.reduceEqDiff, Nat.reduceBEq, Nat.reduceSub, ↓reduceIte, reduceCtorEq, Try.results147])
    | (with_reducible refine And.intro (by first | omega | (simp only [List.length_append, List.length_take, List.length_drop, List.length_cons, List.length_nil, List.length_map]; omega)) ?_)
    | ((with_reducible refine And.intro ?_ ?_); · first | (intro x hx; subst hx; rfl) | exact upR_mem fun _ _ => rfl | exact mapR_mem fun _ _ => rfl | (intro x; refine And.intro ?_ ?_ <;> (intros; subst_vars; rfl)))
    | fail
  refine sw_tok 3 39000 2 1 rfl (.inl rfl) rfl ?_
  simp only [go_sem, Nat.reduceAdd, Nat.reduceMul, Nat.reduceLT, Nat.reduceLeDiff, Nat.reduceEqDiff, Nat.reduceBEq, Nat.reduceSub, ↓reduceIte, reduceCtorEq]
  refine sw_tok 4 49000 22 1 rfl (.inl rfl) rfl ?_
  simp only [go_sem, Nat.reduceAdd, Nat.reduceMul, Nat.reduceLT, Nat.reduceLeDiff, Nat.reduceEqDiff, Nat.reduceBEq, Nat.reduceSub, ↓reduceIte, reduceCtorEq]
  refine sw_loopT (ι := Nat) (fun j => [(13, .int .i64 j), (3, .sl (.own 39000 2 1) ((seenT ts j).map (.int .i64))), (4, .sl (.own 49000 22 1) ((renT ts j).map IntsD))]) (fun _ => []) (fun _ => [49000, 39000]) (fun j => j ≤ ts.length) (fun j => ts.length - j) 0 (by (refine covers_mk0 rfl rfl ?_ ?_ ?_ ?_ <;> simp (disch := (refine Om.mk ?_; omega)) only [go_sem, Nat.reduceAdd, Nat.reduceMul, Nat.reduceLT, Nat.reduceLeDiff, Nat.reduceEqDiff, Nat.reduceBEq, Nat.reduceSub, ↓reduceIte, reduceCtorEq] <;> (try omega)); exact ⟨rfl, rfl, rfl⟩) (by omega) (fun j hj => ?_)
  simp only [go_sem, Nat.reduceAdd, Nat.reduceMul, Nat.reduceLT, Nat.reduceLeDiff, Nat.reduceEqDiff, Nat.reduceBEq, Nat.reduceSub, ↓reduceIte, reduceCtorEq]
  have hsj := hsl j hj
  rcases Nat.lt_or_ge j ts.length with hjl | hjl
  · have htj := ht _ (getD_mem ts j hjl)
    have hrs := renT_succ ts j hjl
    have hss := seenT_succ ts j hjl
    generalize hs0 : seenT ts j = s at hsj hrs hss
    have hne : ts.getD j default ≠ [] := fun e => by rw [e] at htj; simp at htj
    have hll := renT_len ts j hj
    repeat' first
      | exact Bool.noConfusion h
      | refine sw_seq ?_
      | refine sw_block ?_
      | refine sw_skip ?_
      | refine sw_inBlock ?_
      | refine sw_go 0 kp147 fun K hK => ?_
      | refine fun (K : List Oper → LS → Prop) (hK : KOk S 0 _ _ _ K) => ?_
      | ((first | refine runL_go ?_ | refine runQ_go ?_); simp (disch := (refine Om.mk ?_; omega)) only [go_sem, Nat.reduceAdd, Nat.reduceMul, Nat.reduceLT, Nat.reduceLeDiff, Nat.reduceEqDiff, Nat.reduceBEq, Nat.reduceSub, ↓reduceIte, reduceCtorEq])
      | (refine hK.nil ?_; clear hK K; simp only [go_sem, Nat.reduceAdd, Nat.reduceMul, Nat.reduceLT, Nat.reduceLeDiff, Nat.reduceEqDiff, Nat.reduceBEq, Nat.reduceSub, ↓reduceIte, reduceCtorEq])
      | (refine sw_cond rfl (fun h => ?_) (fun h => ?_) <;> (try simp (disch := (refine Om.mk ?_; omega)) only [go_sem, Nat.reduceAdd, Nat.reduceMul, Nat.reduceLT, Nat.reduceLeDiff, Nat.reduceEqDiff, Nat.reduceBEq, Nat.reduceSub, ↓reduceIte, reduceCtorEq] at h))
      | (refine sw_exit rfl ?_)
      | (refine sw_loopEnd ?_)
      | ((first | refine sw_ret (ret0 ?_) | refine sw_ret ?_); simp (disch := (refine Om.mk ?_; omega)) only [go_sem, Nat.reduceAdd, Nat.reduceMul, Nat.reduceLT, Nat.reduceLeDiff, Nat.reduceEqDiff, Nat.reduceBEq, Nat.reduceSub, ↓reduceIte, reduceCtorEq, Try.results147])
      | (refine hK.callT rfl rfl rfl (cloneOwn_fc .any (ts.getD j default) (by omega)) ⟨⟨by simp only [Nat.reduceLT], by simp, by simp [Lg.look]⟩, by assumption⟩ ?_; simp (disch := (refine Om.mk ?_; omega)) only [go_sem, Nat.reduceAdd, Nat.reduceMul, Nat.reduceLT, Nat.reduceLeDiff, Nat.reduceEqDiff, Nat.reduceBEq, Nat.reduceSub, ↓reduceIte, reduceCtorEq])
      | (with_reducible refine And.intro (by first | omega | (simp only [List.length_append, List.length_take, List.length_drop, List.length_cons, List.length_nil, List.length_map]; omega)) ?_)
      | ((with_reducible refine And.intro ?_ ?_); · first | (intro x hx; subst hx; rfl) | exact upR_mem fun _ _ => rfl | exact mapR_mem fun _ _ => rfl | (intro x; refine And.intro ?_ ?_ <;> (intros; subst_vars; rfl)))
      | fail
    · refine sw_loopT (ι := Nat) (fun i => [(21, .int .i64 i), (3, .sl (.own 39000 2 1) ((seenS s ((ts.getD j default).take i)).map (.int .i64)))]) (fun i => [(18, (mixS s (ts.getD j default) i).map (.int .i64))]) (fun _ => [39000, 49000]) (fun i => i ≤ (ts.getD j default).length) (fun i => (ts.getD j default).length - i) 0 (by (refine covers_mk0 rfl rfl ?_ ?_ ?_ ?_ <;> simp (disch := (refine Om.mk ?_; omega)) only [go_sem, Nat.reduceAdd, Nat.reduceMul, Nat.reduceLT, Nat.reduceLeDiff, Nat.reduceEqDiff, Nat.reduceBEq, Nat.reduceSub, ↓reduceIte, reduceCtorEq] <;> (try omega)); all_goals first | exact ⟨rfl, rfl⟩ | simp [mixS]) (by omega) (fun i hi => ?_)
      simp only [go_sem, Nat.reduceAdd, Nat.reduceMul, Nat.reduceLT, Nat.reduceLeDiff, Nat.reduceEqDiff, Nat.reduceBEq, Nat.reduceSub, ↓reduceIte, reduceCtorEq]
      have hml := mixS_len s (ts.getD j default) i hi
      have hmg := mixS_get s (ts.getD j default) i
      have hms := mixS_stay s (ts.getD j default) i
      have hmt := mixS_set s (ts.getD j default) i
      have hst := seen_take s (ts.getD j default) i
      have hsn := seenS_len ((ts.getD j default).take i) s
      have htk : ((ts.getD j default).take i).length ≤ 60 := by simp; omega
      have hfx := fidx_idx ((mixS s (ts.getD j default) i).getD i default) (seenS s ((ts.getD j default).take i))
      have hfr : -1 ≤ fidx (fun x => x = (mixS s (ts.getD j default) i).getD i default) (seenS s ((ts.getD j default).take i)) ∧ fidx (fun x => x = (mixS s (ts.getD j default) i).getD i default) (seenS s ((ts.getD j default).take i)) ≤ 10000 := by
        by_cases hm : (mixS s (ts.getD j default) i).getD i default ∈ seenS s ((ts.getD j default).take i)
        · have := List.idxOf_lt_length_of_mem hm
          rw [hfx.1 hm]; omega
        · rw [hfx.2 hm]; omega
      repeat' first
        | (refine sw_freezeAt1 17 7 1 .any ((mixS s (ts.getD j default) i).map (.int .i64)) rfl rfl (flat_ints _).symm (by rw [List.length_map, hml]) (cells_one fun _ => rfl) (memOk_ints _) (.inl rfl) ?_; simp only [go_sem, Nat.reduceAdd, Nat.reduceMul, Nat.reduceLT, Nat.reduceLeDiff, Nat.reduceEqDiff, Nat.reduceBEq, Nat.reduceSub, ↓reduceIte, reduceCtorEq])
        | exact Bool.noConfusion h
        | refine sw_seq ?_
        | refine sw_block ?_
        | refine sw_skip ?_
        | refine sw_inBlock ?_
        | refine sw_go 0 kp147 fun K hK => ?_
        | refine fun (K : List Oper → LS → Prop) (hK : KOk S 0 _ _ _ K) => ?_
        | ((first | refine runL_go ?_ | refine runQ_go ?_); simp (disch := (refine Om.mk ?_; omega)) only [go_sem, Nat.reduceAdd, Nat.reduceMul, Nat.reduceLT, Nat.reduceLeDiff, Nat.reduceEqDiff, Nat.reduceBEq, Nat.reduceSub, ↓reduceIte, reduceCtorEq])
        | (refine hK.nil ?_; clear hK K; simp only [go_sem, Nat.reduceAdd, Nat.reduceMul, Nat.reduceLT, Nat.reduceLeDiff, Nat.reduceEqDiff, Nat.reduceBEq, Nat.reduceSub, ↓reduceIte, reduceCtorEq])
        | (refine sw_cond rfl (fun h => ?_) (fun h => ?_) <;> (try simp (disch := (refine Om.mk ?_; omega)) only [go_sem, Nat.reduceAdd, Nat.reduceMul, Nat.reduceLT, Nat.reduceLeDiff, Nat.reduceEqDiff, Nat.reduceBEq, Nat.reduceSub, ↓reduceIte, reduceCtorEq] at h))
        | (refine sw_exit rfl ?_)
        | (refine sw_loopEnd ?_)
        | ((first | refine sw_ret (ret0 ?_) | refine sw_ret ?_); simp (disch := (refine Om.mk ?_; omega)) only [go_sem, Nat.reduceAdd, Nat.reduceMul, Nat.reduceLT, Nat.reduceLeDiff, Nat.reduceEqDiff, Nat.reduceBEq, Nat.reduceSub, ↓reduceIte, reduceCtorEq, Try.results147])
        | refine hK.call rfl rfl rfl (index_fc _ _ _) ⟨(by intro p hp; cases hp), rfl, rfl, (by simp only [dstOk, Nat.reduceLT])⟩ ?_
        | (with_reducible refine And.intro (by first | omega | (simp only [List.length_append, List.length_take, List.length_drop, List.length_cons, List.length_nil, List.length_map]; omega)) ?_)
        | ((with_reducible refine And.intro ?_ ?_); · first | (intro x hx; subst hx; rfl) | exact upR_mem fun _ _ => rfl | exact mapR_mem fun _ _ => rfl | (intro x; refine And.intro ?_ ?_ <;> (intros; subst_vars; rfl)))
        | fail
      · rw [hmg (by omega)] at h
        refine ⟨i + 1, (by (refine covers_mk0 rfl rfl ?_ ?_ ?_ ?_ <;> simp (disch := (refine Om.mk ?_; omega)) only [go_sem, Nat.reduceAdd, Nat.reduceMul, Nat.reduceLT, Nat.reduceLeDiff, Nat.reduceEqDiff, Nat.reduceBEq, Nat.reduceSub, ↓reduceIte, reduceCtorEq] <;> (try omega)); all_goals first | (rw [hst (by omega), if_pos (.inl h)]; exact ⟨rfl, by omega⟩) | rw [hms (by omega) h]), by omega, by omega⟩
      · rw [hmg (by omega)] at *
        have hnm : (ts.getD j default).getD i default ∉ seenS s ((ts.getD j default).take i) := fun hm => by rw [hfx.1 hm] at h; omega
        have hst := hst (by omega)
        rw [if_neg (by rintro (h1 | h1); omega; exact hnm h1)] at hst
        have hmt := hmt (by omega)
        rw [hst, code_new (by assumption) hnm] at hmt
        refine ⟨i + 1, (by (refine covers_mk0 rfl rfl ?_ ?_ ?_ ?_ <;> simp (disch := (refine Om.mk ?_; omega)) only [go_sem, Nat.reduceAdd, Nat.reduceMul, Nat.reduceLT, Nat.reduceLeDiff, Nat.reduceEqDiff, Nat.reduceBEq, Nat.reduceSub, ↓reduceIte, reduceCtorEq] <;> (try omega)); all_goals first | (rw [hst]; exact ⟨rfl, by omega⟩) | (rw [← hmt]) | (simp; done)), by omega, by omega⟩
      · rw [hmg (by omega)] at *
        have hm : (ts.getD j default).getD i default ∈ seenS s ((ts.getD j default).take i) := Classical.byContradiction fun hn => by rw [hfx.2 hn] at h; omega
        have hst := hst (by omega)
        rw [if_pos (.inr hm)] at hst
        have hmt := hmt (by omega)
        rw [hst, code_old (by assumption), ← hfx.1 hm] at hmt
        refine ⟨i + 1, (by (refine covers_mk0 rfl rfl ?_ ?_ ?_ ?_ <;> simp (disch := (refine Om.mk ?_; omega)) only [go_sem, Nat.reduceAdd, Nat.reduceMul, Nat.reduceLT, Nat.reduceLeDiff, Nat.reduceEqDiff, Nat.reduceBEq, Nat.reduceSub, ↓reduceIte, reduceCtorEq] <;> (try omega)); all_goals first | (rw [hst]; exact ⟨rfl, by omega⟩) | (rw [← hmt]) | (simp; done)), by omega, by omega⟩
      · obtain ⟨e1, e2⟩ := mixS_all s (ts.getD j default) i (by omega)
        refine ⟨j + 1, (by (refine covers_mk0 rfl rfl ?_ ?_ ?_ ?_ <;> simp (disch := (refine Om.mk ?_; omega)) only [go_sem, Nat.reduceAdd, Nat.reduceMul, Nat.reduceLT, Nat.reduceLeDiff, Nat.reduceEqDiff, Nat.reduceBEq, Nat.reduceSub, ↓reduceIte, reduceCtorEq] <;> (try omega)); all_goals first | (rw [e1, e2, hrs, hss, List.map_append]; exact ⟨rfl, rfl, by omega⟩) | (simp; done)), by omega, by omega⟩
    · rw [renT_all ts j (by omega)]
  · repeat' first
      | exact Bool.noConfusion h
      | refine sw_seq ?_
      | refine sw_block ?_
      | refine sw_skip ?_
      | refine sw_inBlock ?_
      | refine sw_go 0 kp147 fun K hK => ?_
      | refine fun (K : List Oper → LS → Prop) (hK : KOk S 0 _ _ _ K) => ?_
      | ((first | refine runL_go ?_ | refine runQ_go ?_); simp (disch := (refine Om.mk ?_; omega)) only [go_sem, Nat.reduceAdd, Nat.reduceMul, Nat.reduceLT, Nat.reduceLeDiff, Nat.reduceEqDiff, Nat.reduceBEq, Nat.reduceSub, ↓reduceIte, reduceCtorEq])
      | (refine hK.nil ?_; clear hK K; simp only [go_sem, Nat.reduceAdd, Nat.reduceMul, Nat.reduceLT, Nat.reduceLeDiff, Nat.reduceEqDiff, Nat.reduceBEq, Nat.reduceSub, ↓reduceIte, reduceCtorEq])
      | (refine sw_cond rfl (fun h => ?_) (fun h => ?_) <;> (try simp (disch := (refine Om.mk ?_; omega)) only [go_sem, Nat.reduceAdd, Nat.reduceMul, Nat.reduceLT, Nat.reduceLeDiff, Nat.reduceEqDiff, Nat.reduceBEq, Nat.reduceSub, ↓reduceIte, reduceCtorEq] at h))
      | (refine sw_exit rfl ?_)
      | (refine sw_loopEnd ?_)
      | ((first | refine sw_ret (ret0 ?_) | refine sw_ret ?_); simp (disch := (refine Om.mk ?_; omega)) only [go_sem, Nat.reduceAdd, Nat.reduceMul, Nat.reduceLT, Nat.reduceLeDiff, Nat.reduceEqDiff, Nat.reduceBEq, Nat.reduceSub, ↓reduceIte, reduceCtorEq, Try.results147])
      | (with_reducible refine And.intro (by first | omega | (simp only [List.length_append, List.length_take, List.length_drop, List.length_cons, List.length_nil, List.length_map]; omega)) ?_)
      | ((with_reducible refine And.intro ?_ ?_); · first | (intro x hx; subst hx; rfl) | exact upR_mem fun _ _ => rfl | exact mapR_mem fun _ _ => rfl | (intro x; refine And.intro ?_ ?_ <;> (intros; subst_vars; rfl)))
      | fail
    · exfalso; omega
    · rw [renT_all ts j (by omega)]
def VariantP (rs : List Int) (a b : EqT) : Prop := (EqOkP rs a ∧ EqOkP rs b) ∧ (renL [] [a.l, a.r] = renL [] [b.l, b.r] ∨ renL [] [a.l, a.r] = renL [] [b.r, b.l])
def kp59 : List (Nat × List Nat) := [(0, [3, 4, 5]), (1, [3, 4, 5, 16]), (2, [6]), (3, [6])]
attribute [go_sem] kp59
theorem specVariantEq_fc (tk : Tk) (rs : List Int) (a b : EqT) : FC S 59 [] [] [] [.agg [.sl tk (rs.map (.int .i64))], EqD a, EqD b] (.bool (tst (VariantP rs a b))) [] [] := by
  rcases Classical.em (EqOkP rs a ∧ EqOkP rs b) with ⟨h1, h2⟩ | hn
  · have e : VariantP rs a b ↔ (match2 rs a.l a.r b.l b.r ∧ match2 rs b.l b.r a.l a.r) ∨ (match2 rs a.l a.r b.r b.l ∧ match2 rs b.r b.l a.l a.r) := by
      unfold VariantP
      rw [variant_iff h1.1 h1.2 h2.1 h2.2, variant_iff h1.1 h1.2 h2.2 h2.1]
      exact ⟨fun h => h.2, fun h => ⟨⟨h1, h2⟩, h⟩⟩
    rw [tst_congr e]
    refine FC.args (args' := [.agg [.sl .any (rs.map (.int .i64))], EqD a, EqD b]) ?_ (by simp only [go_sem, Nat.reduceAdd, Nat.reduceMul, Nat.reduceLT, Nat.reduceLeDiff, Nat.reduceEqDiff, Nat.reduceBEq, Nat.reduceSub, ↓reduceIte, reduceCtorEq])
    refine fc_body Try.func59 rfl (by kernel_rfl) (by simp [Try.f59]) fun B => ?_
    simp only [Try.ntmps59, enumD, List.map_nil, List.map_cons, List.length_map, Nat.zero_add, Nat.reduceAdd]
    repeat' first
      | exact Bool.noConfusion h
      | refine sw_seq ?_
      | refine sw_block ?_
      | refine sw_skip ?_
      | refine sw_inBlock ?_
      | refine sw_go 0 kp59 fun K hK => ?_
      | refine fun (K : List Oper → LS → Prop) (hK : KOk S 0 _ _ _ K) => ?_
      | ((first | refine runL_go ?_ | refine runQ_go ?_); simp (disch := (refine Om.mk ?_; omega)) only [go_sem, Nat.reduceAdd, Nat.reduceMul, Nat.reduceLT, Nat.reduceLeDiff, Nat.reduceEqDiff, Nat.reduceBEq, Nat.reduceSub, ↓reduceIte, reduceCtorEq])
      | (refine hK.nil ?_; clear hK K; simp only [go_sem, Nat.reduceAdd, Nat.reduceMul, Nat.reduceLT, Nat.reduceLeDiff, Nat.reduceEqDiff, Nat.reduceBEq, Nat.reduceSub, ↓reduceIte, reduceCtorEq])
      | (refine runG_fork rfl rfl rfl rfl rfl (fun h => ?_) (fun h => ?_) <;> (try simp (disch := (refine Om.mk ?_; omega)) only [go_sem, Nat.reduceAdd, Nat.reduceMul, Nat.reduceLT, Nat.reduceLeDiff, Nat.reduceEqDiff, Nat.reduceBEq, Nat.reduceSub, ↓reduceIte, reduceCtorEq] at h))
      | (refine hK.skip rfl (by simp only [dstOk, Nat.reduceLT]) ?_)
      | (refine sw_cond rfl (fun h => ?_) (fun h => ?_) <;> (try simp (disch := (refine Om.mk ?_; omega)) only [go_sem, Nat.reduceAdd, Nat.reduceMul, Nat.reduceLT, Nat.reduceLeDiff, Nat.reduceEqDiff, Nat.reduceBEq, Nat.reduceSub, ↓reduceIte, reduceCtorEq] at h))
      | (refine sw_exit rfl ?_)
      | (refine sw_loopEnd ?_)
      | ((first | refine sw_ret (ret0 ?_) | refine sw_ret ?_); simp (disch := (refine Om.mk ?_; omega)) only [go_sem, Nat.reduceAdd, Nat.reduceMul, Nat.reduceLT, Nat.reduceLeDiff, Nat.reduceEqDiff, Nat.reduceBEq, Nat.reduceSub, ↓reduceIte, reduceCtorEq, Try.results59])
      | refine hK.call rfl rfl rfl (specEqOk_fc _ _ a) ⟨(by intro p hp; cases hp), rfl, rfl, (by simp only [dstOk, Nat.reduceLT])⟩ ?_
      | refine hK.call rfl rfl rfl (specEqOk_fc _ _ b) ⟨(by intro p hp; cases hp), rfl, rfl, (by simp only [dstOk, Nat.reduceLT])⟩ ?_
      | refine hK.call rfl rfl rfl (l20Variant_fc _ _ _ _ _ rs a.l a.r b.l b.r h1.1 h1.2 h2.1 h2.2) ⟨(by intro p hp; cases hp), rfl, rfl, (by simp only [dstOk, Nat.reduceLT])⟩ ?_
      | refine hK.call rfl rfl rfl (l20Variant_fc _ _ _ _ _ rs a.l a.r b.r b.l h1.1 h1.2 h2.2 h2.1) ⟨(by intro p hp; cases hp), rfl, rfl, (by simp only [dstOk, Nat.reduceLT])⟩ ?_
      | (refine hK.fork rfl rfl rfl (fun h => ?_) (fun h => ?_) <;> (try simp (disch := (refine Om.mk ?_; omega)) only [go_sem, Nat.reduceAdd, Nat.reduceMul, Nat.reduceLT, Nat.reduceLeDiff, Nat.reduceEqDiff, Nat.reduceBEq, Nat.reduceSub, ↓reduceIte, reduceCtorEq] at h))
      | (with_reducible refine And.intro (by first | omega | (simp only [List.length_append, List.length_take, List.length_drop, List.length_cons, List.length_nil, List.length_map]; omega)) ?_)
      | ((with_reducible refine And.intro ?_ ?_); · first | (intro x hx; subst hx; rfl) | exact upR_mem fun _ _ => rfl | exact mapR_mem fun _ _ => rfl | (intro x; refine And.intro ?_ ?_ <;> (intros; subst_vars; rfl)))
      | fail
    all_goals first | (exact absurd h1 h) | (exact absurd h2 h) | grind
  · have e : ¬ VariantP rs a b := fun h => hn h.1
    rw [tst_false e]
    refine FC.args (args' := [.agg [.sl .any (rs.map (.int .i64))], EqD a, EqD b]) ?_ (by simp only [go_sem, Nat.reduceAdd, Nat.reduceMul, Nat.reduceLT, Nat.reduceLeDiff, Nat.reduceEqDiff, Nat.reduceBEq, Nat.reduceSub, ↓reduceIte, reduceCtorEq])
    refine fc_body Try.func59 rfl (by kernel_rfl) (by simp [Try.f59]) fun B => ?_
    simp only [Try.ntmps59, enumD, List.map_nil, List.map_cons, List.length_map, Nat.zero_add, Nat.reduceAdd]
    repeat' first
      | exact Bool.noConfusion h
      | refine sw_seq ?_
      | refine sw_block ?_
      | refine sw_skip ?_
      | refine sw_inBlock ?_
      | refine sw_go 0 kp59 fun K hK => ?_
      | refine fun (K : List Oper → LS → Prop) (hK : KOk S 0 _ _ _ K) => ?_
      | ((first | refine runL_go ?_ | refine runQ_go ?_); simp (disch := (refine Om.mk ?_; omega)) only [go_sem, Nat.reduceAdd, Nat.reduceMul, Nat.reduceLT, Nat.reduceLeDiff, Nat.reduceEqDiff, Nat.reduceBEq, Nat.reduceSub, ↓reduceIte, reduceCtorEq])
      | (refine hK.nil ?_; clear hK K; simp only [go_sem, Nat.reduceAdd, Nat.reduceMul, Nat.reduceLT, Nat.reduceLeDiff, Nat.reduceEqDiff, Nat.reduceBEq, Nat.reduceSub, ↓reduceIte, reduceCtorEq])
      | (refine runG_fork rfl rfl rfl rfl rfl (fun h => ?_) (fun h => ?_) <;> (try simp (disch := (refine Om.mk ?_; omega)) only [go_sem, Nat.reduceAdd, Nat.reduceMul, Nat.reduceLT, Nat.reduceLeDiff, Nat.reduceEqDiff, Nat.reduceBEq, Nat.reduceSub, ↓reduceIte, reduceCtorEq] at h))
      | (refine hK.skip rfl (by simp only [dstOk, Nat.reduceLT]) ?_)
      | (refine sw_cond rfl (fun h => ?_) (fun h => ?_) <;> (try simp (disch := (refine Om.mk ?_; omega)) only [go_sem, Nat.reduceAdd, Nat.reduceMul, Nat.reduceLT, Nat.reduceLeDiff, Nat.reduceEqDiff, Nat.reduceBEq, Nat.reduceSub, ↓reduceIte, reduceCtorEq] at h))
      | (refine sw_exit rfl ?_)
      | (refine sw_loopEnd ?_)
      | ((first | refine sw_ret (ret0 ?_) | refine sw_ret ?_); simp (disch := (refine Om.mk ?_; omega)) only [go_sem, Nat.reduceAdd, Nat.reduceMul, Nat.reduceLT, Nat.reduceLeDiff, Nat.reduceEqDiff, Nat.reduceBEq, Nat.reduceSub, ↓reduceIte, reduceCtorEq, Try.results59])
      | refine hK.call rfl rfl rfl (specEqOk_fc _ _ a) ⟨(by intro p hp; cases hp), rfl, rfl, (by simp only [dstOk, Nat.reduceLT])⟩ ?_
      | refine hK.call rfl rfl rfl (specEqOk_fc _ _ b) ⟨(by intro p hp; cases hp), rfl, rfl, (by simp only [dstOk, Nat.reduceLT])⟩ ?_
      | (refine hK.fork rfl rfl rfl (fun h => ?_) (fun h => ?_) <;> (try simp (disch := (refine Om.mk ?_; omega)) only [go_sem, Nat.reduceAdd, Nat.reduceMul, Nat.reduceLT, Nat.reduceLeDiff, Nat.reduceEqDiff, Nat.reduceBEq, Nat.reduceSub, ↓reduceIte, reduceCtorEq] at h))
      | (with_reducible refine And.intro (by first | omega | (simp only [List.length_append, List.length_take, List.length_drop, List.length_cons, List.length_nil, List.length_map]; omega)) ?_)
      | ((with_reducible refine And.intro ?_ ?_); · first | (intro x hx; subst hx; rfl) | exact upR_mem fun _ _ => rfl | exact mapR_mem fun _ _ => rfl | (intro x; refine And.intro ?_ ?_ <;> (intros; subst_vars; rfl)))
      | fail
    all_goals (exfalso; exact hn ⟨by assumption, by assumption⟩)
def kp58 : List (Nat × List Nat) := [(0, [3, 4, 5]), (1, [4, 5, 17]), (2, [6]), (3, [5, 7]), (4, [6])]
attribute [go_sem] kp58
theorem implVariantEq_fc (tk : Tk) (rs : List Int) (a b : EqT) : FC S 58 [] [] [] [.agg [.sl tk (rs.map (.int .i64))], EqD a, EqD b] (.bool (tst (VariantP rs a b))) [] [] := by
  rcases Classical.em (EqOkP rs a ∧ EqOkP rs b) with ⟨h1, h2⟩ | hn
  · have ln : ∀ x y : List Int, TermOkP rs x → TermOkP rs y → ∀ t ∈ [x, y], 1 ≤ t.length ∧ t.length ≤ 60 := fun x y hx hy t ht => by
      simp only [List.mem_cons, List.not_mem_nil, or_false] at ht
      rcases ht with rfl | rfl
      · exact hx.2.1
      · exact hy.2.1
    refine FC.args (args' := [.agg [.sl .any (rs.map (.int .i64))], EqD a, EqD b]) ?_ (by simp only [go_sem, Nat.reduceAdd, Nat.reduceMul, Nat.reduceLT, Nat.reduceLeDiff, Nat.reduceEqDiff, Nat.reduceBEq, Nat.reduceSub, ↓reduceIte, reduceCtorEq])
    refine fc_body Try.func58 rfl (by kernel_rfl) (by simp [Try.f58]) fun B => ?_
    simp only [Try.ntmps58, enumD, List.map_nil, List.map_cons, List.length_map, Nat.zero_add, Nat.reduceAdd]
    repeat' first
      | exact Bool.noConfusion h
      | refine sw_seq ?_
      | refine sw_block ?_
      | refine sw_skip ?_
      | refine sw_inBlock ?_
      | refine sw_go 0 kp58 fun K hK => ?_
      | refine fun (K : List Oper → LS → Prop) (hK : KOk S 0 _ _ _ K) => ?_
      | ((first | refine runL_go ?_ | refine runQ_go ?_); simp (disch := (refine Om.mk ?_; omega)) only [go_sem, Nat.reduceAdd, Nat.reduceMul, Nat.reduceLT, Nat.reduceLeDiff, Nat.reduceEqDiff, Nat.reduceBEq, Nat.reduceSub, ↓reduceIte, reduceCtorEq])
      | (refine hK.nil ?_; clear hK K; simp only [go_sem, Nat.reduceAdd, Nat.reduceMul, Nat.reduceLT, Nat.reduceLeDiff, Nat.reduceEqDiff, Nat.reduceBEq, Nat.reduceSub, ↓reduceIte, reduceCtorEq])
      | (refine runG_fork rfl rfl rfl rfl rfl (fun h => ?_) (fun h => ?_) <;> (try simp (disch := (refine Om.mk ?_; omega)) only [go_sem, Nat.reduceAdd, Nat.reduceMul, Nat.reduceLT, Nat.reduceLeDiff, Nat.reduceEqDiff, Nat.reduceBEq, Nat.reduceSub, ↓reduceIte, reduceCtorEq] at h))
      | (refine hK.skip rfl (by simp only [dstOk, Nat.reduceLT]) ?_)
      | (refine sw_cond rfl (fun h => ?_) (fun h => ?_) <;> (try simp (disch := (refine Om.mk ?_; omega)) only [go_sem, Nat.reduceAdd, Nat.reduceMul, Nat.reduceLT, Nat.reduceLeDiff, Nat.reduceEqDiff, Nat.reduceBEq, Nat.reduceSub, ↓reduceIte, reduceCtorEq] at h))
      | (refine sw_exit rfl ?_)
      | (refine sw_loopEnd ?_)
      | ((first | refine sw_ret (ret0 ?_) | refine sw_ret ?_); simp (disch := (refine Om.mk ?_; omega)) only [go_sem, Nat.reduceAdd, Nat.reduceMul, Nat.reduceLT, Nat.reduceLeDiff, Nat.reduceEqDiff, Nat.reduceBEq, Nat.reduceSub, ↓reduceIte, reduceCtorEq, Try.results58])
      | refine hK.call rfl rfl rfl (implEqOk_fc _ _ a) ⟨(by intro p hp; cases hp), rfl, rfl, (by simp only [dstOk, Nat.reduceLT])⟩ ?_
      | refine hK.call rfl rfl rfl (implEqOk_fc _ _ b) ⟨(by intro p hp; cases hp), rfl, rfl, (by simp only [dstOk, Nat.reduceLT])⟩ ?_
      | refine hK.call rfl rfl rfl (renumber_fc _ [a.l, a.r] (by simp) (ln _ _ h1.1 h1.2)) ⟨(by intro p hp; cases hp), rfl, rfl, (by simp only [dstOk, Nat.reduceLT])⟩ ?_
      | refine hK.call rfl rfl rfl (renumber_fc _ [b.l, b.r] (by simp) (ln _ _ h2.1 h2.2)) ⟨(by intro p hp; cases hp), rfl, rfl, (by simp only [dstOk, Nat.reduceLT])⟩ ?_
      | refine hK.call rfl rfl rfl (renumber_fc _ [b.r, b.l] (by simp) (ln _ _ h2.2 h2.1)) ⟨(by intro p hp; cases hp), rfl, rfl, (by simp only [dstOk, Nat.reduceLT])⟩ ?_
      | refine hK.call rfl rfl rfl (sameTerms_fc _ _ _ _) ⟨(by intro p hp; cases hp), rfl, rfl, (by simp only [dstOk, Nat.reduceLT])⟩ ?_
      | (refine hK.fork rfl rfl rfl (fun h => ?_) (fun h => ?_) <;> (try simp (disch := (refine Om.mk ?_; omega)) only [go_sem, Nat.reduceAdd, Nat.reduceMul, Nat.reduceLT, Nat.reduceLeDiff, Nat.reduceEqDiff, Nat.reduceBEq, Nat.reduceSub, ↓reduceIte, reduceCtorEq] at h))
      | (with_reducible refine And.intro (by first | omega | (simp only [List.length_append, List.length_take, List.length_drop, List.length_cons, List.length_nil, List.length_map]; omega)) ?_)
      | ((with_reducible refine And.intro ?_ ?_); · first | (intro x hx; subst hx; rfl) | exact upR_mem fun _ _ => rfl | exact mapR_mem fun _ _ => rfl | (intro x; refine And.intro ?_ ?_ <;> (intros; subst_vars; rfl)))
      | fail
    all_goals first | (exact absurd h1 h) | (exact absurd h2 h) | (simp only [VariantP]; grind)
  · have e : ¬ VariantP rs a b := fun h => hn h.1
    rw [tst_false e]
    refine FC.args (args' := [.agg [.sl .any (rs.map (.int .i64))], EqD a, EqD b]) ?_ (by simp only [go_sem, Nat.reduceAdd, Nat.reduceMul, Nat.reduceLT, Nat.reduceLeDiff, Nat.reduceEqDiff, Nat.reduceBEq, Nat.reduceSub, ↓reduceIte, reduceCtorEq])
    refine fc_body Try.func58 rfl (by kernel_rfl) (by simp [Try.f58]) fun B => ?_
    simp only [Try.ntmps58, enumD, List.map_nil, List.map_cons, List.length_map, Nat.zero_add, Nat.reduceAdd]
    repeat' first
      | exact Bool.noConfusion h
      | refine sw_seq ?_
      | refine sw_block ?_
      | refine sw_skip ?_
      | refine sw_inBlock ?_
      | refine sw_go 0 kp58 fun K hK => ?_
      | refine fun (K : List Oper → LS → Prop) (hK : KOk S 0 _ _ _ K) => ?_
      | ((first | refine runL_go ?_ | refine runQ_go ?_); simp (disch := (refine Om.mk ?_; omega)) only [go_sem, Nat.reduceAdd, Nat.reduceMul, Nat.reduceLT, Nat.reduceLeDiff, Nat.reduceEqDiff, Nat.reduceBEq, Nat.reduceSub, ↓reduceIte, reduceCtorEq])
      | (refine hK.nil ?_; clear hK K; simp only [go_sem, Nat.reduceAdd, Nat.reduceMul, Nat.reduceLT, Nat.reduceLeDiff, Nat.reduceEqDiff, Nat.reduceBEq, Nat.reduceSub, ↓reduceIte, reduceCtorEq])
      | (refine runG_fork rfl rfl rfl rfl rfl (fun h => ?_) (fun h => ?_) <;> (try simp (disch := (refine Om.mk ?_; omega)) only [go_sem, Nat.reduceAdd, Nat.reduceMul, Nat.reduceLT, Nat.reduceLeDiff, Nat.reduceEqDiff, Nat.reduceBEq, Nat.reduceSub, ↓reduceIte, reduceCtorEq] at h))
      | (refine hK.skip rfl (by simp only [dstOk, Nat.reduceLT]) ?_)
      | (refine sw_cond rfl (fun h => ?_) (fun h => ?_) <;> (try simp (disch := (refine Om.mk ?_; omega)) only [go_sem, Nat.reduceAdd, Nat.reduceMul, Nat.reduceLT, Nat.reduceLeDiff, Nat.reduceEqDiff, Nat.reduceBEq, Nat.reduceSub, ↓reduceIte, reduceCtorEq] at h))
      | (refine sw_exit rfl ?_)
      | (refine sw_loopEnd ?_)
      | ((first | refine sw_ret (ret0 ?_) | refine sw_ret ?_); simp (disch := (refine Om.mk ?_; omega)) only [go_sem, Nat.reduceAdd, Nat.reduceMul, Nat.reduceLT, Nat.reduceLeDiff, Nat.reduceEqDiff, Nat.reduceBEq, Nat.reduceSub, ↓reduceIte, reduceCtorEq, Try.results58])
      | refine hK.call rfl rfl rfl (implEqOk_fc _ _ a) ⟨(by intro p hp; cases hp), rfl, rfl, (by simp only [dstOk, Nat.reduceLT])⟩ ?_
      | refine hK.call rfl rfl rfl (implEqOk_fc _ _ b) ⟨(by intro p hp; cases hp), rfl, rfl, (by simp only [dstOk, Nat.reduceLT])⟩ ?_
      | (refine hK.fork rfl rfl rfl (fun h => ?_) (fun h => ?_) <;> (try simp (disch := (refine Om.mk ?_; omega)) only [go_sem, Nat.reduceAdd, Nat.reduceMul, Nat.reduceLT, Nat.reduceLeDiff, Nat.reduceEqDiff, Nat.reduceBEq, Nat.reduceSub, ↓reduceIte, reduceCtorEq] at h))
      | (with_reducible refine And.intro (by first | omega | (simp only [List.length_append, List.length_take, List.length_drop, List.length_cons, List.length_nil, List.length_map]; omega)) ?_)
      | ((with_reducible refine And.intro ?_ ?_); · first | (intro x hx; subst hx; rfl) | exact upR_mem fun _ _ => rfl | exact mapR_mem fun _ _ => rfl | (intro x; refine And.intro ?_ ?_ <;> (intros; subst_vars; rfl)))
      | fail
    all_goals (exfalso; exact hn ⟨by assumption, by assumption⟩)
end Go.Proofs.Ytobbdopkdhjghaa
