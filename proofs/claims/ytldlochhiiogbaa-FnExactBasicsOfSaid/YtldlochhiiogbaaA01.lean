/-
  Contracts of the first chapter's functions: signatures, ends of terms, valid terms.
-/
import Derived.Test.YtldlochhiiogbaaSet
import Derived.Test.YtldlochhiiogbaaTy
namespace Go.Proofs.Ytldlochhiiogbaa
open Go Go.Lg
set_option linter.unusedSimpArgs false
set_option maxHeartbeats 4000000
attribute [local irreducible] SW runL runQ runG runQG FC Ret1
def SigOkP (rs : List Int) : Prop := (1 ≤ rs.length ∧ rs.length ≤ 8) ∧ ∀ j < rs.length, 0 ≤ rs.getD j default ∧ rs.getD j default ≤ 3
/-- how many arguments follow a number, -1 for none -/
def arS (rs : List Int) (n : Int) : Int := if -24 ≤ n ∧ n ≤ -1 then 0 else if 0 ≤ n ∧ n ≤ rs.length - 1 then rs.getD n.toNat default else -1
def scan (rs : List Int) : List Int → Int → Nat → Int
  | [], _, _ => -1
  | x :: r, need, i => if arS rs x < 0 then -1 else if need + arS rs x - 1 = 0 then (i : Int) + 1 else scan rs r (need + arS rs x - 1) (i + 1)
/-- the index behind the term that begins at a place, -1 for none -/
def endS (rs t : List Int) (a : Nat) : Int := scan rs (t.drop a) 1 a
def TermOkP (rs t : List Int) : Prop := SigOkP rs ∧ (1 ≤ t.length ∧ t.length ≤ 60) ∧ endS rs t 0 = t.length
theorem scan_step (rs t : List Int) (need : Int) (i : Nat) (h : i < t.length) : scan rs (t.drop i) need i = if arS rs (t.getD i default) < 0 then -1 else if need + arS rs (t.getD i default) - 1 = 0 then (i : Int) + 1 else scan rs (t.drop (i + 1)) (need + arS rs (t.getD i default) - 1) (i + 1) := by
  rw [List.drop_eq_getElem_cons h]
  simp [scan, List.getD, List.getElem?_eq_getElem h]
theorem scan_end (rs t : List Int) (need : Int) (i : Nat) (h : t.length ≤ i) : scan rs (t.drop i) need i = -1 := by
  rw [List.drop_of_length_le h]; rfl
theorem arS_rng {rs : List Int} (hs : SigOkP rs) (n : Int) : -1 ≤ arS rs n ∧ arS rs n ≤ 3 := by
  unfold arS
  split
  · omega
  · split
    · rename_i h
      have := hs.2 n.toNat (by omega)
      omega
    · omega
theorem arS_var {rs : List Int} {n : Int} (h : -24 ≤ n ∧ n ≤ -1) : arS rs n = 0 := if_pos h
theorem arS_sym {rs : List Int} {n : Int} (h : 0 ≤ n ∧ n ≤ rs.length - 1) : arS rs n = rs.getD n.toNat default := by
  unfold arS; rw [if_neg (by omega), if_pos h]
theorem arS_none {rs : List Int} {n : Int} (h1 : ¬ (-24 ≤ n ∧ n ≤ -1)) (h2 : ¬ (0 ≤ n ∧ n ≤ rs.length - 1)) : arS rs n = -1 := by
  unfold arS; rw [if_neg h1, if_neg h2]
/-- a whole scan has seen every number -/
theorem scan_all {rs : List Int} : ∀ (l : List Int) (need : Int) (i : Nat), scan rs l need i = i + l.length → ∀ x ∈ l, 0 ≤ arS rs x
  | [], _, _, _, x, hx => by cases hx
  | y :: r, need, i, h, x, hx => by
    simp only [scan] at h
    split at h
    · simp only [List.length_cons] at h; omega
    · split at h
      · have : r = [] := by
          cases r with
          | nil => rfl
          | cons _ _ => simp only [List.length_cons] at h; omega
        subst this
        obtain rfl : x = y := by simpa using hx
        omega
      · rcases List.mem_cons.1 hx with rfl | hx
        · omega
        · exact scan_all r _ _ (by rw [h]; simp only [List.length_cons]; omega) x hx
theorem ge24_of_arS {rs : List Int} {x : Int} (h : 0 ≤ arS rs x) : -24 ≤ x := by
  unfold arS at h
  split at h
  · omega
  · split at h <;> omega
theorem TermOkP.ge {rs t : List Int} (h : TermOkP rs t) : ∀ x ∈ t, -24 ≤ x := fun x hx => by
  have := h.2.2
  unfold endS at this
  rw [List.drop_zero] at this
  exact ge24_of_arS (scan_all (rs := rs) t 1 0 (by omega) x hx)
/-- where the cursor stops, and whether it has passed a whole term -/
def skipS (rs : List Int) : List Int → Int → Nat → Nat × Bool
  | [], _, i => (i, false)
  | x :: r, need, i => if arS rs x < 0 then (i, false) else if need + arS rs x - 1 = 0 then (i + 1, true) else skipS rs r (need + arS rs x - 1) (i + 1)
theorem skip_scan (rs : List Int) : ∀ (l : List Int) (need : Int) (i : Nat), scan rs l need i = if (skipS rs l need i).2 = true then ((skipS rs l need i).1 : Int) else -1
  | [], _, _ => rfl
  | x :: r, need, i => by
    simp only [scan, skipS]
    split
    · rfl
    · split
      · simp
      · exact skip_scan rs r _ _
theorem skip_step (rs t : List Int) (need : Int) (i : Nat) (h : i < t.length) : skipS rs (t.drop i) need i = if arS rs (t.getD i default) < 0 then (i, false) else if need + arS rs (t.getD i default) - 1 = 0 then (i + 1, true) else skipS rs (t.drop (i + 1)) (need + arS rs (t.getD i default) - 1) (i + 1) := by
  rw [List.drop_eq_getElem_cons h]
  simp [skipS, List.getD, List.getElem?_eq_getElem h]
theorem skip_end (rs t : List Int) (need : Int) (i : Nat) (h : t.length ≤ i) : skipS rs (t.drop i) need i = (i, false) := by
  rw [List.drop_of_length_le h]; rfl
/-- what the cursor's step gives -/
def nxS (rs t : List Int) (a : Nat) : Int := if a < t.length then arS rs (t.getD a default) else -1
def minAt (xs : List Int) : Nat → Int
  | 0 => xs.getD 0 default
  | n + 1 => if xs.getD (n + 1) default < minAt xs n then xs.getD (n + 1) default else minAt xs n
theorem minAt_ge (xs : List Int) (c : Int) : ∀ n, c ≤ minAt xs n ↔ ∀ j ≤ n, c ≤ xs.getD j default
  | 0 => ⟨fun h j hj => by obtain rfl : j = 0 := by omega
                           exact h, fun h => h 0 (by omega)⟩
  | n + 1 => by
    have ih := minAt_ge xs c n
    simp only [minAt]
    constructor
    · intro h j hj
      split at h
      · rcases Nat.lt_or_ge j (n + 1) with e | e
        · exact ih.1 (by omega) j (by omega)
        · obtain rfl : j = n + 1 := by omega
          exact h
      · rcases Nat.lt_or_ge j (n + 1) with e | e
        · exact ih.1 h j (by omega)
        · obtain rfl : j = n + 1 := by omega
          omega
    · intro h
      split
      · exact h _ (by omega)
      · exact ih.2 fun j hj => h j (by omega)
theorem minAt_all {xs : List Int} {c : Int} (h : 0 < xs.length) : c ≤ minAt xs (xs.length - 1) ↔ ∀ x ∈ xs, c ≤ x := by
  rw [minAt_ge, ← forall_getD (P := fun x => c ≤ x)]
  exact ⟨fun hh j hj => hh j (by omega), fun hh j hj => hh j (by omega)⟩
def kp22 : List (Nat × List Nat) := [(0, [0, 1, 2]), (1, [6])]
attribute [go_sem] kp22
theorem l1In_fc (n lo hi : Int) : FC S 22 [] [] [] [.int .i64 n, .int .i64 lo, .int .i64 hi] (.bool (tst (lo ≤ n ∧ n ≤ hi))) [] [] := by
  refine fc_body Try.func22 rfl (by kernel_rfl) (by simp [Try.f22]) fun B => ?_
  simp only [Try.ntmps22, enumD, List.map_nil, List.map_cons, List.length_map, Nat.zero_add, Nat.reduceAdd]
  repeat' first
    | exact Bool.noConfusion h
    | refine sw_seq ?_
    | refine sw_block ?_
    | refine sw_skip ?_
    | refine sw_inBlock ?_
    | refine sw_go 0 kp22 fun K hK => ?_
    | refine fun (K : List Oper → LS → Prop) (hK : KOk S 0 _ _ _ K) => ?_
    | ((first | refine runL_go ?_ | refine runQ_go ?_); simp (disch := (refine Om.mk ?_; omega)) only [go_sem])
    | (refine hK.nil ?_; clear hK K; simp only [go_sem])
    | (refine runG_fork rfl rfl rfl rfl rfl (fun h => ?_) (fun h => ?_) <;> (try simp (disch := (refine Om.mk ?_; omega)) only [go_sem] at h))
    | (refine hK.skip rfl (by simp only [dstOk, Nat.reduceLT]) ?_)
    | (refine sw_cond rfl (fun h => ?_) (fun h => ?_) <;> (try simp (disch := (refine Om.mk ?_; omega)) only [go_sem] at h))
    | (refine sw_exit rfl ?_)
    | (refine sw_loopEnd ?_)
    | ((first | refine sw_ret (ret0 ?_) | refine sw_ret ?_); simp (disch := (refine Om.mk ?_; omega)) only [go_sem, Try.results22])
    | (refine hK.fork rfl rfl rfl (fun h => ?_) (fun h => ?_) <;> (try simp (disch := (refine Om.mk ?_; omega)) only [go_sem] at h))
    | (with_reducible refine And.intro (by first | omega | (simp only [List.length_append, List.length_take, List.length_drop, List.length_cons, List.length_nil, List.length_map]; omega)) ?_)
    | ((with_reducible refine And.intro ?_ ?_); · first | (intro x hx; subst hx; rfl) | exact upR_mem fun _ _ => rfl | exact mapR_mem fun _ _ => rfl | (intro x; refine And.intro ?_ ?_ <;> (intros; subst_vars; rfl)))
    | fail
  · simp [decide_tst, h]
  · omega
def kp21 : List (Nat × List Nat) := [(0, [1]), (1, [1, 8]), (2, [2]), (3, [1, 3]), (4, [1, 3, 13]), (6, [1, 3, 22]), (7, [2]), (5, [1, 3]), (8, [2])]
attribute [go_sem] kp21
theorem specSigOk_fc (tk : Tk) (rs : List Int) : FC S 21 [] [] [] [.agg [.sl tk (rs.map (.int .i64))]] (.bool (tst (SigOkP rs))) [] [] := by
  refine fc_body Try.func21 rfl (by kernel_rfl) (by simp [Try.f21]) fun B => ?_
  simp only [Try.ntmps21, enumD, List.map_nil, List.map_cons, List.length_map, Nat.zero_add, Nat.reduceAdd]
  refine sw_bnd_agg 0 0 rfl rfl fun hb0_0 => ?_
  simp only [D.bnd, List.length_map] at hb0_0
  repeat' first
    | exact Bool.noConfusion h
    | refine sw_seq ?_
    | refine sw_block ?_
    | refine sw_skip ?_
    | refine sw_inBlock ?_
    | refine sw_go 0 kp21 fun K hK => ?_
    | refine fun (K : List Oper → LS → Prop) (hK : KOk S 0 _ _ _ K) => ?_
    | ((first | refine runL_go ?_ | refine runQ_go ?_); simp (disch := (refine Om.mk ?_; omega)) only [go_sem])
    | (refine hK.nil ?_; clear hK K; simp only [go_sem])
    | (refine sw_cond rfl (fun h => ?_) (fun h => ?_) <;> (try simp (disch := (refine Om.mk ?_; omega)) only [go_sem] at h))
    | (refine sw_exit rfl ?_)
    | (refine sw_loopEnd ?_)
    | ((first | refine sw_ret (ret0 ?_) | refine sw_ret ?_); simp (disch := (refine Om.mk ?_; omega)) only [go_sem, Try.results21])
    | refine hK.call rfl rfl rfl (l1In_fc _ _ _) ⟨(by intro p hp; cases hp), rfl, rfl, (by simp only [dstOk, Nat.reduceLT])⟩ ?_
    | (with_reducible refine And.intro (by first | omega | (simp only [List.length_append, List.length_take, List.length_drop, List.length_cons, List.length_nil, List.length_map]; omega)) ?_)
    | ((with_reducible refine And.intro ?_ ?_); · first | (intro x hx; subst hx; rfl) | exact upR_mem fun _ _ => rfl | exact mapR_mem fun _ _ => rfl | (intro x; refine And.intro ?_ ?_ <;> (intros; subst_vars; rfl)))
    | fail
  · rintro ⟨h1, _⟩; omega
  refine sw_loopU (ι := Nat) (fun i => [(3, .int .i64 i)]) (fun _ => []) (fun i => i ≤ rs.length ∧ (∀ j < i, 0 ≤ rs.getD j default ∧ rs.getD j default ≤ 3)) (fun i => rs.length - i) 0 (by (refine covers_mk0 rfl rfl ?_ ?_ ?_ ?_ <;> simp (disch := (refine Om.mk ?_; omega)) only [go_sem] <;> (try omega))) ⟨by omega, ?_⟩ (fun i ⟨hi, hj⟩ => ?_)
  rotate_left
  simp only [go_sem]
  repeat' first
    | exact Bool.noConfusion h
    | refine sw_seq ?_
    | refine sw_block ?_
    | refine sw_skip ?_
    | refine sw_inBlock ?_
    | refine sw_go 0 kp21 fun K hK => ?_
    | refine fun (K : List Oper → LS → Prop) (hK : KOk S 0 _ _ _ K) => ?_
    | ((first | refine runL_go ?_ | refine runQ_go ?_); simp (disch := (refine Om.mk ?_; omega)) only [go_sem])
    | (refine hK.nil ?_; clear hK K; simp only [go_sem])
    | (refine sw_cond rfl (fun h => ?_) (fun h => ?_) <;> (try simp (disch := (refine Om.mk ?_; omega)) only [go_sem] at h))
    | (refine sw_exit rfl ?_)
    | (refine sw_loopEnd ?_)
    | ((first | refine sw_ret (ret0 ?_) | refine sw_ret ?_); simp (disch := (refine Om.mk ?_; omega)) only [go_sem, Try.results21])
    | refine hK.call rfl rfl rfl (l1In_fc _ _ _) ⟨(by intro p hp; cases hp), rfl, rfl, (by simp only [dstOk, Nat.reduceLT])⟩ ?_
    | (with_reducible refine And.intro (by first | omega | (simp only [List.length_append, List.length_take, List.length_drop, List.length_cons, List.length_nil, List.length_map]; omega)) ?_)
    | ((with_reducible refine And.intro ?_ ?_); · first | (intro x hx; subst hx; rfl) | exact upR_mem fun _ _ => rfl | exact mapR_mem fun _ _ => rfl | (intro x; refine And.intro ?_ ?_ <;> (intros; subst_vars; rfl)))
    | fail
  · rintro ⟨_, h2⟩; exact h (h2 i (by omega))
  · exact ⟨i + 1, by (refine covers_mk0 rfl rfl ?_ ?_ ?_ ?_ <;> simp (disch := (refine Om.mk ?_; omega)) only [go_sem] <;> (try omega)), ⟨by omega, upto_succ hj (by assumption)⟩, by omega⟩
  · exact ⟨⟨by omega, by omega⟩, fun j hj' => hj j (by omega)⟩
  · intro j hj'; omega
def kp26 : List (Nat × List Nat) := [(0, [1]), (1, [1, 14]), (2, [2]), (3, [16, 17, 18]), (4, [16, 17, 18, 19]), (5, [4, 16, 17, 18]), (6, [16, 17, 18, 27]), (7, [2]), (8, [16, 17, 18]), (9, [2])]
attribute [go_sem] kp26
theorem implSigOk_fc (tk : Tk) (rs : List Int) : FC S 26 [] [] [] [.agg [.sl tk (rs.map (.int .i64))]] (.bool (tst (SigOkP rs))) [] [] := by
  refine fc_body Try.func26 rfl (by kernel_rfl) (by simp [Try.f26]) fun B => ?_
  simp only [Try.ntmps26, enumD, List.map_nil, List.map_cons, List.length_map, Nat.zero_add, Nat.reduceAdd]
  refine sw_bnd_agg 0 0 rfl rfl fun hb0_0 => ?_
  simp only [D.bnd, List.length_map] at hb0_0
  repeat' first
    | exact Bool.noConfusion h
    | refine sw_seq ?_
    | refine sw_block ?_
    | refine sw_skip ?_
    | refine sw_inBlock ?_
    | refine sw_go 0 kp26 fun K hK => ?_
    | refine fun (K : List Oper → LS → Prop) (hK : KOk S 0 _ _ _ K) => ?_
    | ((first | refine runL_go ?_ | refine runQ_go ?_); simp (disch := (refine Om.mk ?_; omega)) only [go_sem])
    | (refine hK.nil ?_; clear hK K; simp only [go_sem])
    | (refine runG_fork rfl rfl rfl rfl rfl (fun h => ?_) (fun h => ?_) <;> (try simp (disch := (refine Om.mk ?_; omega)) only [go_sem] at h))
    | (refine hK.skip rfl (by simp only [dstOk, Nat.reduceLT]) ?_)
    | (refine sw_cond rfl (fun h => ?_) (fun h => ?_) <;> (try simp (disch := (refine Om.mk ?_; omega)) only [go_sem] at h))
    | (refine sw_exit rfl ?_)
    | (refine sw_loopEnd ?_)
    | ((first | refine sw_ret (ret0 ?_) | refine sw_ret ?_); simp (disch := (refine Om.mk ?_; omega)) only [go_sem, Try.results26])
    | (refine hK.fork rfl rfl rfl (fun h => ?_) (fun h => ?_) <;> (try simp (disch := (refine Om.mk ?_; omega)) only [go_sem] at h))
    | (with_reducible refine And.intro (by first | omega | (simp only [List.length_append, List.length_take, List.length_drop, List.length_cons, List.length_nil, List.length_map]; omega)) ?_)
    | ((with_reducible refine And.intro ?_ ?_); · first | (intro x hx; subst hx; rfl) | exact upR_mem fun _ _ => rfl | exact mapR_mem fun _ _ => rfl | (intro x; refine And.intro ?_ ?_ <;> (intros; subst_vars; rfl)))
    | fail
  · rintro ⟨h1, _⟩; omega
  · rintro ⟨h1, _⟩; omega
  refine sw_loopU (ι := Nat) (fun i => [(18, .int .i64 i)]) (fun _ => []) (fun i => i ≤ rs.length ∧ (∀ j < i, 0 ≤ rs.getD j default ∧ rs.getD j default ≤ 3)) (fun i => rs.length - i) 0 (by (refine covers_mk0 rfl rfl ?_ ?_ ?_ ?_ <;> simp (disch := (refine Om.mk ?_; omega)) only [go_sem] <;> (try omega))) ⟨by omega, ?_⟩ (fun i ⟨hi, hj⟩ => ?_)
  rotate_left
  simp only [go_sem]
  repeat' first
    | exact Bool.noConfusion h
    | refine sw_seq ?_
    | refine sw_block ?_
    | refine sw_skip ?_
    | refine sw_inBlock ?_
    | refine sw_go 0 kp26 fun K hK => ?_
    | refine fun (K : List Oper → LS → Prop) (hK : KOk S 0 _ _ _ K) => ?_
    | ((first | refine runL_go ?_ | refine runQ_go ?_); simp (disch := (refine Om.mk ?_; omega)) only [go_sem])
    | (refine hK.nil ?_; clear hK K; simp only [go_sem])
    | (refine runG_fork rfl rfl rfl rfl rfl (fun h => ?_) (fun h => ?_) <;> (try simp (disch := (refine Om.mk ?_; omega)) only [go_sem] at h))
    | (refine hK.skip rfl (by simp only [dstOk, Nat.reduceLT]) ?_)
    | (refine sw_cond rfl (fun h => ?_) (fun h => ?_) <;> (try simp (disch := (refine Om.mk ?_; omega)) only [go_sem] at h))
    | (refine sw_exit rfl ?_)
    | (refine sw_loopEnd ?_)
    | ((first | refine sw_ret (ret0 ?_) | refine sw_ret ?_); simp (disch := (refine Om.mk ?_; omega)) only [go_sem, Try.results26])
    | (refine hK.fork rfl rfl rfl (fun h => ?_) (fun h => ?_) <;> (try simp (disch := (refine Om.mk ?_; omega)) only [go_sem] at h))
    | (with_reducible refine And.intro (by first | omega | (simp only [List.length_append, List.length_take, List.length_drop, List.length_cons, List.length_nil, List.length_map]; omega)) ?_)
    | ((with_reducible refine And.intro ?_ ?_); · first | (intro x hx; subst hx; rfl) | exact upR_mem fun _ _ => rfl | exact mapR_mem fun _ _ => rfl | (intro x; refine And.intro ?_ ?_ <;> (intros; subst_vars; rfl)))
    | fail
  · rintro ⟨_, h2⟩; have := h2 i (by omega); omega
  · rintro ⟨_, h2⟩; have := h2 i (by omega); omega
  · exact ⟨i + 1, by (refine covers_mk0 rfl rfl ?_ ?_ ?_ ?_ <;> simp (disch := (refine Om.mk ?_; omega)) only [go_sem] <;> (try omega)), ⟨by omega, upto_succ hj ⟨by assumption, by assumption⟩⟩, by omega⟩
  · exact ⟨⟨by omega, by omega⟩, fun j hj' => hj j (by omega)⟩
  · intro j hj'; omega
def kp87 : List (Nat × List Nat) := [(0, [1, 2]), (1, [1, 2, 5]), (2, [4]), (3, [1, 2, 8]), (4, [4]), (5, [4])]
attribute [go_sem] kp87
theorem l1Arity_fc (tk : Tk) (rs : List Int) (n : Int) : FC S 87 [] [] [] [.agg [.sl tk (rs.map (.int .i64))], .int .i64 n] (.int .i64 (arS rs n)) [] [] := by
  refine fc_body Try.func87 rfl (by kernel_rfl) (by simp [Try.f87]) fun B => ?_
  simp only [Try.ntmps87, enumD, List.map_nil, List.map_cons, List.length_map, Nat.zero_add, Nat.reduceAdd]
  refine sw_bnd_agg 0 0 rfl rfl fun hb0_0 => ?_
  simp only [D.bnd, List.length_map] at hb0_0
  repeat' first
    | exact Bool.noConfusion h
    | refine sw_seq ?_
    | refine sw_block ?_
    | refine sw_skip ?_
    | refine sw_inBlock ?_
    | refine sw_go 0 kp87 fun K hK => ?_
    | refine fun (K : List Oper → LS → Prop) (hK : KOk S 0 _ _ _ K) => ?_
    | ((first | refine runL_go ?_ | refine runQ_go ?_); simp (disch := (refine Om.mk ?_; omega)) only [go_sem])
    | (refine hK.nil ?_; clear hK K; simp only [go_sem])
    | (refine sw_cond rfl (fun h => ?_) (fun h => ?_) <;> (try simp (disch := (refine Om.mk ?_; omega)) only [go_sem] at h))
    | (refine sw_exit rfl ?_)
    | (refine sw_loopEnd ?_)
    | ((first | refine sw_ret (ret0 ?_) | refine sw_ret ?_); simp (disch := (refine Om.mk ?_; omega)) only [go_sem, Try.results87])
    | refine hK.call rfl rfl rfl (l1In_fc _ _ _) ⟨(by intro p hp; cases hp), rfl, rfl, (by simp only [dstOk, Nat.reduceLT])⟩ ?_
    | (with_reducible refine And.intro (by first | omega | (simp only [List.length_append, List.length_take, List.length_drop, List.length_cons, List.length_nil, List.length_map]; omega)) ?_)
    | ((with_reducible refine And.intro ?_ ?_); · first | (intro x hx; subst hx; rfl) | exact upR_mem fun _ _ => rfl | exact mapR_mem fun _ _ => rfl | (intro x; refine And.intro ?_ ?_ <;> (intros; subst_vars; rfl)))
    | fail
  · exact (arS_var h).symm
  · rw [arS_sym (by omega)]
  · exact (arS_none (by assumption) (by assumption)).symm
def kp82 : List (Nat × List Nat) := [(0, [1, 2, 3]), (1, [1, 2, 3, 7]), (2, [1, 3, 7, 8]), (3, [1, 3, 7, 8, 14]), (5, [1, 3, 7, 8, 9]), (6, [1, 3, 7, 8, 9, 24]), (7, [6]), (8, [1, 3, 7, 8]), (9, [1, 3, 7, 8, 30]), (10, [6]), (4, [1, 3, 7, 8]), (11, [6])]
attribute [go_sem] kp82
theorem l1End_fc (tk tk' : Tk) (rs t : List Int) (a : Int) (hs : SigOkP rs) (hl : t.length ≤ 60) (ha : 0 ≤ a) : FC S 82 [] [] [] [.agg [.sl tk (rs.map (.int .i64))], .sl tk' (t.map (.int .i64)), .int .i64 a] (.int .i64 (endS rs t a.toNat)) [] [] := by
  refine fc_body Try.func82 rfl (by kernel_rfl) (by simp [Try.f82]) fun B => ?_
  simp only [Try.ntmps82, enumD, List.map_nil, List.map_cons, List.length_map, Nat.zero_add, Nat.reduceAdd]
  refine sw_bnd 1 rfl fun hb1 => ?_
  simp only [D.bnd, List.length_map] at hb1
  repeat' first
    | exact Bool.noConfusion h
    | refine sw_seq ?_
    | refine sw_block ?_
    | refine sw_skip ?_
    | refine sw_inBlock ?_
    | refine sw_go 0 kp82 fun K hK => ?_
    | refine fun (K : List Oper → LS → Prop) (hK : KOk S 0 _ _ _ K) => ?_
    | refine sw_goD kp82 (by kernel_rfl) fun K hK => ?_
    | ((first | refine runL_go ?_ | refine runQ_go ?_); simp (disch := (refine Om.mk ?_; omega)) only [go_sem])
    | (refine hK.nil ?_; clear hK K; simp only [go_sem])
    | (refine sw_cond rfl (fun h => ?_) (fun h => ?_) <;> (try simp (disch := (refine Om.mk ?_; omega)) only [go_sem] at h))
    | (refine sw_exit rfl ?_)
    | (refine sw_loopEnd ?_)
    | ((first | refine sw_ret (ret0 ?_) | refine sw_ret ?_); simp (disch := (refine Om.mk ?_; omega)) only [go_sem, Try.results82])
    | (with_reducible refine And.intro (by first | omega | (simp only [List.length_append, List.length_take, List.length_drop, List.length_cons, List.length_nil, List.length_map]; omega)) ?_)
    | ((with_reducible refine And.intro ?_ ?_); · first | (intro x hx; subst hx; rfl) | exact upR_mem fun _ _ => rfl | exact mapR_mem fun _ _ => rfl | (intro x; refine And.intro ?_ ?_ <;> (intros; subst_vars; rfl)))
    | fail
  refine sw_loopU (ι := Nat × Int) (fun p => [(8, .int .i64 p.1), (7, .int .i64 p.2)]) (fun p => []) (fun p => (a.toNat ≤ p.1 ∧ endS rs t a.toNat = scan rs (t.drop p.1) p.2 p.1) ∧ 1 ≤ p.2 ∧ p.2 ≤ 1 + 3 * p.1) (fun p => t.length - p.1) (a.toNat, 1) (by (refine covers_mk0 rfl rfl ?_ ?_ ?_ ?_ <;> simp (disch := (refine Om.mk ?_; omega)) only [go_sem] <;> (try omega))) ?_ (fun p hp => ?_)
  rotate_left
  simp only [go_sem]
  obtain ⟨i, need⟩ := p
  obtain ⟨⟨h1, h2⟩, h3, h4⟩ := hp
  have hr := arS_rng hs (t.getD i default)
  have hb : i < t.length → scan rs (t.drop i) need i = _ := scan_step rs t need i
  repeat' first
    | exact Bool.noConfusion h
    | refine sw_seq ?_
    | refine sw_block ?_
    | refine sw_skip ?_
    | refine sw_inBlock ?_
    | refine sw_go 0 kp82 fun K hK => ?_
    | refine fun (K : List Oper → LS → Prop) (hK : KOk S 0 _ _ _ K) => ?_
    | refine sw_goD kp82 (by kernel_rfl) fun K hK => ?_
    | ((first | refine runL_go ?_ | refine runQ_go ?_); simp (disch := (refine Om.mk ?_; omega)) only [go_sem])
    | (refine hK.nil ?_; clear hK K; simp only [go_sem])
    | (refine sw_cond rfl (fun h => ?_) (fun h => ?_) <;> (try simp (disch := (refine Om.mk ?_; omega)) only [go_sem] at h))
    | (refine sw_exit rfl ?_)
    | (refine sw_loopEnd ?_)
    | ((first | refine sw_ret (ret0 ?_) | refine sw_ret ?_); simp (disch := (refine Om.mk ?_; omega)) only [go_sem, Try.results82])
    | refine hK.call rfl rfl rfl (l1Arity_fc _ _ _) ⟨(by intro p hp; cases hp), rfl, rfl, (by simp only [dstOk, Nat.reduceLT])⟩ ?_
    | (with_reducible refine And.intro (by first | omega | (simp only [List.length_append, List.length_take, List.length_drop, List.length_cons, List.length_nil, List.length_map]; omega)) ?_)
    | ((with_reducible refine And.intro ?_ ?_); · first | (intro x hx; subst hx; rfl) | exact upR_mem fun _ _ => rfl | exact mapR_mem fun _ _ => rfl | (intro x; refine And.intro ?_ ?_ <;> (intros; subst_vars; rfl)))
    | fail
  · rw [h2, hb (by omega), if_pos h]
  · rw [h2, hb (by omega), if_neg (by omega), if_pos h]
  · refine ⟨(i + 1, need + arS rs (t.getD i default) - 1), by (refine covers_mk0 rfl rfl ?_ ?_ ?_ ?_ <;> simp (disch := (refine Om.mk ?_; omega)) only [go_sem] <;> (try omega)), ⟨⟨by omega, ?_⟩, by omega, by omega⟩, by omega⟩
    rw [h2, hb (by omega), if_neg (by omega), if_neg h]
  · rw [h2, scan_end rs t need i (by omega)]
  · exact ⟨⟨by omega, rfl⟩, by omega, by omega⟩
def kp72 : List (Nat × List Nat) := [(0, [1, 2]), (1, [4])]
attribute [go_sem] kp72
theorem specTermOk_fc (tk tk' : Tk) (rs t : List Int) : FC S 72 [] [] [] [.agg [.sl tk (rs.map (.int .i64))], .sl tk' (t.map (.int .i64))] (.bool (tst (TermOkP rs t))) [] [] := by
  refine fc_body Try.func72 rfl (by kernel_rfl) (by simp [Try.f72]) fun B => ?_
  simp only [Try.ntmps72, enumD, List.map_nil, List.map_cons, List.length_map, Nat.zero_add, Nat.reduceAdd]
  refine sw_bnd_agg 0 0 rfl rfl fun hb0_0 => ?_
  simp only [D.bnd, List.length_map] at hb0_0
  refine sw_bnd 1 rfl fun hb1 => ?_
  simp only [D.bnd, List.length_map] at hb1
  repeat' first
    | exact Bool.noConfusion h
    | refine sw_seq ?_
    | refine sw_block ?_
    | refine sw_skip ?_
    | refine sw_inBlock ?_
    | refine sw_go 0 kp72 fun K hK => ?_
    | refine fun (K : List Oper → LS → Prop) (hK : KOk S 0 _ _ _ K) => ?_
    | ((first | refine runL_go ?_ | refine runQ_go ?_); simp (disch := (refine Om.mk ?_; omega)) only [go_sem])
    | (refine hK.nil ?_; clear hK K; simp only [go_sem])
    | (refine runG_fork rfl rfl rfl rfl rfl (fun h => ?_) (fun h => ?_) <;> (try simp (disch := (refine Om.mk ?_; omega)) only [go_sem] at h))
    | (refine hK.skip rfl (by simp only [dstOk, Nat.reduceLT]) ?_)
    | (refine sw_cond rfl (fun h => ?_) (fun h => ?_) <;> (try simp (disch := (refine Om.mk ?_; omega)) only [go_sem] at h))
    | (refine sw_exit rfl ?_)
    | (refine sw_loopEnd ?_)
    | ((first | refine sw_ret (ret0 ?_) | refine sw_ret ?_); simp (disch := (refine Om.mk ?_; omega)) only [go_sem, Try.results72])
    | refine hK.call rfl rfl rfl (specSigOk_fc _ _) ⟨(by intro p hp; cases hp), rfl, rfl, (by simp only [dstOk, Nat.reduceLT])⟩ ?_
    | refine hK.call rfl rfl rfl (l1In_fc _ _ _) ⟨(by intro p hp; cases hp), rfl, rfl, (by simp only [dstOk, Nat.reduceLT])⟩ ?_
    | refine hK.call rfl rfl rfl (l1End_fc _ _ _ _ _ (by assumption) (by omega) (by omega)) ⟨(by intro p hp; cases hp), rfl, rfl, (by simp only [dstOk, Nat.reduceLT])⟩ ?_
    | (refine hK.fork rfl rfl rfl (fun h => ?_) (fun h => ?_) <;> (try simp (disch := (refine Om.mk ?_; omega)) only [go_sem] at h))
    | (with_reducible refine And.intro (by first | omega | (simp only [List.length_append, List.length_take, List.length_drop, List.length_cons, List.length_nil, List.length_map]; omega)) ?_)
    | ((with_reducible refine And.intro ?_ ?_); · first | (intro x hx; subst hx; rfl) | exact upR_mem fun _ _ => rfl | exact mapR_mem fun _ _ => rfl | (intro x; refine And.intro ?_ ?_ <;> (intros; subst_vars; rfl)))
    | fail
  all_goals (simp only [TermOkP] at *; grind)
def kp83 : List (Nat × List Nat) := [(0, [0]), (1, [0, 7]), (2, [0]), (3, [0, 3]), (4, [0, 3, 4]), (5, [0, 3, 4, 15]), (7, [0, 3, 4]), (6, [0, 3, 4]), (8, [2])]
attribute [go_sem] kp83
theorem min_fc (tk : Tk) (xs : List Int) (h0 : 0 < xs.length) : FC S 83 [] [] [] [.sl tk (xs.map (.int .i64))] (.int .i64 (minAt xs (xs.length - 1))) [] [] := by
  refine fc_body Try.func83 rfl (by kernel_rfl) (by simp [Try.f83]) fun B => ?_
  simp only [Try.ntmps83, enumD, List.map_nil, List.map_cons, List.length_map, Nat.zero_add, Nat.reduceAdd]
  refine sw_bnd 0 rfl fun hb0 => ?_
  simp only [D.bnd, List.length_map] at hb0
  repeat' first
    | exact Bool.noConfusion h
    | refine sw_seq ?_
    | refine sw_block ?_
    | refine sw_skip ?_
    | refine sw_inBlock ?_
    | refine sw_go 0 kp83 fun K hK => ?_
    | refine fun (K : List Oper → LS → Prop) (hK : KOk S 0 _ _ _ K) => ?_
    | ((first | refine runL_go ?_ | refine runQ_go ?_); simp (disch := (refine Om.mk ?_; omega)) only [go_sem])
    | (refine hK.nil ?_; clear hK K; simp only [go_sem])
    | (refine sw_cond rfl (fun h => ?_) (fun h => ?_) <;> (try simp (disch := (refine Om.mk ?_; omega)) only [go_sem] at h))
    | (refine sw_exit rfl ?_)
    | (refine sw_loopEnd ?_)
    | ((first | refine sw_ret (ret0 ?_) | refine sw_ret ?_); simp (disch := (refine Om.mk ?_; omega)) only [go_sem, Try.results83])
    | (with_reducible refine And.intro (by first | omega | (simp only [List.length_append, List.length_take, List.length_drop, List.length_cons, List.length_nil, List.length_map]; omega)) ?_)
    | ((with_reducible refine And.intro ?_ ?_); · first | (intro x hx; subst hx; rfl) | exact upR_mem fun _ _ => rfl | exact mapR_mem fun _ _ => rfl | (intro x; refine And.intro ?_ ?_ <;> (intros; subst_vars; rfl)))
    | fail
  · omega
  refine sw_loopU (ι := Nat) (fun p => [(4, .int .i64 (p + 1)), (3, .int .i64 (minAt xs p))]) (fun p => []) (fun p => p < xs.length) (fun p => xs.length - p) 0 (by (refine covers_mk0 rfl rfl ?_ ?_ ?_ ?_ <;> simp (disch := (refine Om.mk ?_; omega)) only [go_sem] <;> (try omega)); exact ⟨rfl, rfl⟩) ?_ (fun p hp => ?_)
  rotate_left
  simp only [go_sem]
  repeat' first
    | exact Bool.noConfusion h
    | refine sw_seq ?_
    | refine sw_block ?_
    | refine sw_skip ?_
    | refine sw_inBlock ?_
    | refine sw_go 0 kp83 fun K hK => ?_
    | refine fun (K : List Oper → LS → Prop) (hK : KOk S 0 _ _ _ K) => ?_
    | ((first | refine runL_go ?_ | refine runQ_go ?_); simp (disch := (refine Om.mk ?_; omega)) only [go_sem])
    | (refine hK.nil ?_; clear hK K; simp only [go_sem])
    | (refine sw_cond rfl (fun h => ?_) (fun h => ?_) <;> (try simp (disch := (refine Om.mk ?_; omega)) only [go_sem] at h))
    | (refine sw_exit rfl ?_)
    | (refine sw_loopEnd ?_)
    | ((first | refine sw_ret (ret0 ?_) | refine sw_ret ?_); simp (disch := (refine Om.mk ?_; omega)) only [go_sem, Try.results83])
    | (with_reducible refine And.intro (by first | omega | (simp only [List.length_append, List.length_take, List.length_drop, List.length_cons, List.length_nil, List.length_map]; omega)) ?_)
    | ((with_reducible refine And.intro ?_ ?_); · first | (intro x hx; subst hx; rfl) | exact upR_mem fun _ _ => rfl | exact mapR_mem fun _ _ => rfl | (intro x; refine And.intro ?_ ?_ <;> (intros; subst_vars; rfl)))
    | fail
  · exact ⟨p + 1, (by (refine covers_mk0 rfl rfl ?_ ?_ ?_ ?_ <;> simp (disch := (refine Om.mk ?_; omega)) only [go_sem] <;> (try omega)); exact ⟨rfl, by omega⟩), by omega, by omega⟩
  · rw [show p = xs.length - 1 by omega]
  · exact h0
def kp90 : List (Nat × List Nat) := [(0, [1, 2]), (1, [1, 2, 6]), (2, [4]), (3, [4])]
attribute [go_sem] kp90
theorem arityAt_fc (tk : Tk) (rs : List Int) (n : Int) (hn : -24 ≤ n ∧ n < rs.length) : FC S 90 [] [] [] [.agg [.sl tk (rs.map (.int .i64))], .int .i64 n] (.int .i64 (arS rs n)) [] [] := by
  refine fc_body Try.func90 rfl (by kernel_rfl) (by simp [Try.f90]) fun B => ?_
  simp only [Try.ntmps90, enumD, List.map_nil, List.map_cons, List.length_map, Nat.zero_add, Nat.reduceAdd]
  refine sw_bnd_agg 0 0 rfl rfl fun hb0_0 => ?_
  simp only [D.bnd, List.length_map] at hb0_0
  repeat' first
    | exact Bool.noConfusion h
    | refine sw_seq ?_
    | refine sw_block ?_
    | refine sw_skip ?_
    | refine sw_inBlock ?_
    | refine sw_go 0 kp90 fun K hK => ?_
    | refine fun (K : List Oper → LS → Prop) (hK : KOk S 0 _ _ _ K) => ?_
    | ((first | refine runL_go ?_ | refine runQ_go ?_); simp (disch := (refine Om.mk ?_; omega)) only [go_sem])
    | (refine hK.nil ?_; clear hK K; simp only [go_sem])
    | (refine sw_cond rfl (fun h => ?_) (fun h => ?_) <;> (try simp (disch := (refine Om.mk ?_; omega)) only [go_sem] at h))
    | (refine sw_exit rfl ?_)
    | (refine sw_loopEnd ?_)
    | ((first | refine sw_ret (ret0 ?_) | refine sw_ret ?_); simp (disch := (refine Om.mk ?_; omega)) only [go_sem, Try.results90])
    | (with_reducible refine And.intro (by first | omega | (simp only [List.length_append, List.length_take, List.length_drop, List.length_cons, List.length_nil, List.length_map]; omega)) ?_)
    | ((with_reducible refine And.intro ?_ ?_); · first | (intro x hx; subst hx; rfl) | exact upR_mem fun _ _ => rfl | exact mapR_mem fun _ _ => rfl | (intro x; refine And.intro ?_ ?_ <;> (intros; subst_vars; rfl)))
    | fail
  · exact (arS_var (by omega)).symm
  · rw [arS_sym (by omega)]
def kp89 : List (Nat × List Nat) := [(0, [0]), (1, [0, 31]), (2, [2]), (3, [0]), (4, [2])]
attribute [go_sem] kp89
theorem next_fc (id : Nat) (rs t : List Int) (a : Nat) (hs : SigOkP rs) (ht : ∀ x ∈ t, -24 ≤ x) : FC S 89 [] [(id, [.sl .any (rs.map (.int .i64)), .sl .any (t.map (.int .i64)), .int .i64 a])] [] [.box id 0] (.int .i64 (nxS rs t a)) [(id, [.sl .any (rs.map (.int .i64)), .sl .any (t.map (.int .i64)), .int .i64 ((if nxS rs t a < 0 then a else a + 1 : Nat) : Int)])] [] := by
  have hx : a < t.length → -24 ≤ t.getD a default := fun h => ht _ (getD_mem t a h)
  refine fc_body Try.func89 rfl (by kernel_rfl) (by simp [Try.f89]) fun B => ?_
  simp only [Try.ntmps89, enumD, List.map_nil, List.map_cons, List.length_map, Nat.zero_add, Nat.reduceAdd]
  refine sw_bnd_box id 1 (if_pos rfl) rfl fun hbid_1 => ?_
  simp only [D.bnd, List.length_map] at hbid_1
  repeat' first
    | exact Bool.noConfusion h
    | refine sw_seq ?_
    | refine sw_block ?_
    | refine sw_skip ?_
    | refine sw_inBlock ?_
    | refine sw_go 0 kp89 fun K hK => ?_
    | refine fun (K : List Oper → LS → Prop) (hK : KOk S 0 _ _ _ K) => ?_
    | refine sw_goD kp89 (by kernel_rfl) fun K hK => ?_
    | ((first | refine runL_go ?_ | refine runQ_go ?_); simp (disch := (refine Om.mk ?_; omega)) only [go_sem])
    | (refine hK.nil ?_; clear hK K; simp only [go_sem])
    | (refine runG_fork rfl rfl rfl rfl rfl (fun h => ?_) (fun h => ?_) <;> (try simp (disch := (refine Om.mk ?_; omega)) only [go_sem] at h))
    | (refine runQG_fork rfl rfl rfl rfl rfl (fun h => ?_) (fun h => ?_) <;> (try simp (disch := (refine Om.mk ?_; omega)) only [go_sem] at h))
    | (refine hK.skip rfl (by simp only [dstOk, Nat.reduceLT]) ?_)
    | (refine sw_cond rfl (fun h => ?_) (fun h => ?_) <;> (try simp (disch := (refine Om.mk ?_; omega)) only [go_sem] at h))
    | (refine sw_exit rfl ?_)
    | (refine sw_loopEnd ?_)
    | ((first | refine sw_ret (ret0 ?_) | refine sw_ret ?_); simp (disch := (refine Om.mk ?_; omega)) only [go_sem, Try.results89])
    | refine hK.call rfl rfl rfl (arityAt_fc _ _ _ ⟨by omega, by omega⟩) ⟨(by intro p hp; cases hp), rfl, rfl, (by simp only [dstOk, Nat.reduceLT])⟩ ?_
    | (refine hK.fork rfl rfl rfl (fun h => ?_) (fun h => ?_) <;> (try simp (disch := (refine Om.mk ?_; omega)) only [go_sem] at h))
    | (with_reducible refine And.intro (by first | omega | (simp only [List.length_append, List.length_take, List.length_drop, List.length_cons, List.length_nil, List.length_map]; omega)) ?_)
    | ((with_reducible refine And.intro ?_ ?_); · first | (intro x hx; subst hx; rfl) | exact upR_mem fun _ _ => rfl | exact mapR_mem fun _ _ => rfl | (intro x; refine And.intro ?_ ?_ <;> (intros; subst_vars; rfl)))
    | fail
  · have e : nxS rs t a = -1 := if_neg (by omega)
    simp [e]
  · have e : nxS rs t a = -1 := by rw [nxS, if_pos (by omega), arS_none (by omega) (by omega)]
    simp [e]
  · have e : nxS rs t a = arS rs (t.getD a default) := if_pos (by omega)
    have h0 : 0 ≤ arS rs (t.getD a default) := by
      by_cases hn : t.getD a default < 0
      · rw [arS_var (by omega)]; omega
      · rw [arS_sym (by omega)]; exact (hs.2 _ (by omega)).1
    rw [if_neg (by omega)]
    exact ⟨e.symm, by simp⟩
def kp88 : List (Nat × List Nat) := [(0, [0]), (1, [0, 3]), (2, [0, 3, 6]), (4, [0, 3, 4]), (5, [0, 3, 4, 12]), (6, [2]), (7, [0, 3]), (3, [0, 3]), (8, [2])]
attribute [go_sem] kp88
theorem skip_fc (id : Nat) (rs t : List Int) (a : Nat) (hs : SigOkP rs) (ht : ∀ x ∈ t, -24 ≤ x) (hl : t.length ≤ 60) : FC S 88 [] [(id, [.sl .any (rs.map (.int .i64)), .sl .any (t.map (.int .i64)), .int .i64 a])] [] [.box id 0] (.bool (skipS rs (t.drop a) 1 a).2) [(id, [.sl .any (rs.map (.int .i64)), .sl .any (t.map (.int .i64)), .int .i64 (skipS rs (t.drop a) 1 a).1])] [] := by
  refine fc_body Try.func88 rfl (by kernel_rfl) (by simp [Try.f88]) fun B => ?_
  simp only [Try.ntmps88, enumD, List.map_nil, List.map_cons, List.length_map, Nat.zero_add, Nat.reduceAdd]
  refine sw_bnd_box id 1 (if_pos rfl) rfl fun hbid_1 => ?_
  simp only [D.bnd, List.length_map] at hbid_1
  repeat' first
    | exact Bool.noConfusion h
    | refine sw_seq ?_
    | refine sw_block ?_
    | refine sw_skip ?_
    | refine sw_inBlock ?_
    | refine sw_go 0 kp88 fun K hK => ?_
    | refine fun (K : List Oper → LS → Prop) (hK : KOk S 0 _ _ _ K) => ?_
    | ((first | refine runL_go ?_ | refine runQ_go ?_); simp (disch := (refine Om.mk ?_; omega)) only [go_sem])
    | (refine hK.nil ?_; clear hK K; simp only [go_sem])
    | (refine sw_cond rfl (fun h => ?_) (fun h => ?_) <;> (try simp (disch := (refine Om.mk ?_; omega)) only [go_sem] at h))
    | (refine sw_exit rfl ?_)
    | (refine sw_loopEnd ?_)
    | ((first | refine sw_ret (ret0 ?_) | refine sw_ret ?_); simp (disch := (refine Om.mk ?_; omega)) only [go_sem, Try.results88])
    | (with_reducible refine And.intro (by first | omega | (simp only [List.length_append, List.length_take, List.length_drop, List.length_cons, List.length_nil, List.length_map]; omega)) ?_)
    | ((with_reducible refine And.intro ?_ ?_); · first | (intro x hx; subst hx; rfl) | exact upR_mem fun _ _ => rfl | exact mapR_mem fun _ _ => rfl | (intro x; refine And.intro ?_ ?_ <;> (intros; subst_vars; rfl)))
    | fail
  refine sw_loopU (ι := Nat × Int) (fun p => [(3, .int .i64 p.2)]) (fun p => [(id, [.sl .any (rs.map (.int .i64)), .sl .any (t.map (.int .i64)), .int .i64 p.1])]) (fun p => (a ≤ p.1 ∧ ((1 ≤ p.2 ∧ skipS rs (t.drop a) 1 a = skipS rs (t.drop p.1) p.2 p.1) ∨ (p.2 = 0 ∧ skipS rs (t.drop a) 1 a = (p.1, true)))) ∧ p.2 ≤ 1 + 3 * p.1) (fun p => t.length - p.1) (a, 1) (by (refine covers_mk0 rfl rfl ?_ ?_ ?_ ?_ <;> simp (disch := (refine Om.mk ?_; omega)) only [go_sem] <;> (try omega))) ?_ (fun p hp => ?_)
  rotate_left
  simp only [go_sem]
  obtain ⟨i, need⟩ := p
  obtain ⟨⟨h1, h2⟩, h4⟩ := hp
  dsimp only at h1 h2 h4
  have hr := arS_rng hs (t.getD i default)
  have hn : nxS rs t i ≤ 3 := by unfold nxS; split <;> omega
  have hb : i < t.length → skipS rs (t.drop i) need i = _ := skip_step rs t need i
  repeat' first
    | exact Bool.noConfusion h
    | refine sw_seq ?_
    | refine sw_block ?_
    | refine sw_skip ?_
    | refine sw_inBlock ?_
    | refine sw_go 0 kp88 fun K hK => ?_
    | refine fun (K : List Oper → LS → Prop) (hK : KOk S 0 _ _ _ K) => ?_
    | ((first | refine runL_go ?_ | refine runQ_go ?_); simp (disch := (refine Om.mk ?_; omega)) only [go_sem])
    | (refine hK.nil ?_; clear hK K; simp only [go_sem])
    | (refine sw_cond rfl (fun h => ?_) (fun h => ?_) <;> (try simp (disch := (refine Om.mk ?_; omega)) only [go_sem] at h))
    | (refine sw_exit rfl ?_)
    | (refine sw_loopEnd ?_)
    | ((first | refine sw_ret (ret0 ?_) | refine sw_ret ?_); simp (disch := (refine Om.mk ?_; omega)) only [go_sem, Try.results88])
    | (refine hK.callB rfl rfl rfl (next_fc id rs t i hs ht) ⟨⟨by simp only [Nat.reduceLT], (by first | (simp; all_goals fail) | (simp [LS.getBox, Lg.look]; all_goals fail)), by (simp [Lg.look]; all_goals fail), by (simp; all_goals fail), by (simp; all_goals fail)⟩, ⟨by (simp [D.ids, D.idsL]; all_goals fail), by (simp [D.ids, D.idsL]; all_goals fail), by (simp [D.tks, D.tksL]; all_goals fail), by (simp [D.tks, D.tksL]; all_goals fail), by (simp; all_goals fail)⟩, rfl⟩ ?_; simp (disch := (refine Om.mk ?_; omega)) only [go_sem])
    | (with_reducible refine And.intro (by first | omega | (simp only [List.length_append, List.length_take, List.length_drop, List.length_cons, List.length_nil, List.length_map]; omega)) ?_)
    | ((with_reducible refine And.intro ?_ ?_); · first | (intro x hx; subst hx; rfl) | exact upR_mem fun _ _ => rfl | exact mapR_mem fun _ _ => rfl | (intro x; refine And.intro ?_ ?_ <;> (intros; subst_vars; rfl)))
    | fail
  · have e : i < t.length → nxS rs t i = arS rs (t.getD i default) := fun h => if_pos h
    rcases h2 with ⟨h2, h3⟩ | ⟨h2, h3⟩
    · rw [h3]
      by_cases hi : i < t.length
      · rw [hb hi, if_pos (by rw [← e hi]; assumption), if_pos (by assumption)]; simp
      · rw [skip_end rs t need i (by omega), if_pos (by assumption)]; simp
    · omega
  · have hi : i < t.length := by
      by_cases hi : i < t.length
      · exact hi
      · have : nxS rs t i = -1 := if_neg hi
        omega
    have e : nxS rs t i = arS rs (t.getD i default) := if_pos hi
    refine ⟨(i + 1, need + nxS rs t i - 1), (by (refine covers_mk0 rfl rfl ?_ ?_ ?_ ?_ <;> simp (disch := (refine Om.mk ?_; omega)) only [go_sem] <;> (try omega)); rw [if_neg (by omega)]), ⟨⟨by omega, ?_⟩, by omega⟩, by omega⟩
    rcases h2 with ⟨h2, h3⟩ | ⟨h2, h3⟩
    · rw [h3, hb hi, if_neg (by omega), ← e]
      by_cases hz : need + nxS rs t i - 1 = 0
      · rw [if_pos hz]; exact .inr ⟨hz, rfl⟩
      · rw [if_neg hz]; exact .inl ⟨by dsimp only; omega, rfl⟩
    · omega
  · rcases h2 with ⟨h2, h3⟩ | ⟨h2, h3⟩
    · omega
    · rw [h3]; simp
  · exact ⟨⟨by omega, .inl ⟨by omega, rfl⟩⟩, by omega⟩
def kp84 : List (Nat × List Nat) := [(0, [1, 2, 3]), (1, [7]), (2, [7, 13]), (3, [6]), (4, [6])]
attribute [go_sem] kp84
theorem endAt_fc (tk tk' : Tk) (rs t : List Int) (a : Int) (hs : SigOkP rs) (ht : ∀ x ∈ t, -24 ≤ x) (hl : t.length ≤ 60) (ha : 0 ≤ a) : FC S 84 [] [] [] [.agg [.sl tk (rs.map (.int .i64))], .sl tk' (t.map (.int .i64)), .int .i64 a] (.int .i64 (endS rs t a.toNat)) [] [] := by
  obtain ⟨a, rfl⟩ := Int.eq_ofNat_of_zero_le ha
  refine FC.args (args' := [.agg [.sl .any (rs.map (.int .i64))], .sl .any (t.map (.int .i64)), .int .i64 a]) ?_ (by simp only [go_sem])
  refine fc_body Try.func84 rfl (by kernel_rfl) (by simp [Try.f84]) fun B => ?_
  simp only [Try.ntmps84, enumD, List.map_nil, List.map_cons, List.length_map, Nat.zero_add, Nat.reduceAdd]
  repeat' first
    | exact Bool.noConfusion h
    | refine sw_seq ?_
    | refine sw_block ?_
    | refine sw_skip ?_
    | refine sw_inBlock ?_
    | refine sw_go 0 kp84 fun K hK => ?_
    | refine fun (K : List Oper → LS → Prop) (hK : KOk S 0 _ _ _ K) => ?_
    | ((first | refine runL_go ?_ | refine runQ_go ?_); simp (disch := (refine Om.mk ?_; omega)) only [go_sem])
    | (refine hK.nil ?_; clear hK K; simp only [go_sem])
    | (refine sw_cond rfl (fun h => ?_) (fun h => ?_) <;> (try simp (disch := (refine Om.mk ?_; omega)) only [go_sem] at h))
    | (refine sw_exit rfl ?_)
    | (refine sw_loopEnd ?_)
    | ((first | refine sw_ret (ret0 ?_) | refine sw_ret ?_); simp (disch := (refine Om.mk ?_; omega)) only [go_sem, Try.results84])
    | (refine hK.callB rfl rfl rfl (skip_fc 7 rs t a hs ht hl) ⟨⟨by simp only [Nat.reduceLT], (by first | (simp; all_goals fail) | (simp [LS.getBox, Lg.look]; all_goals fail)), by (simp [Lg.look]; all_goals fail), by (simp; all_goals fail), by (simp; all_goals fail)⟩, ⟨by (simp [D.ids, D.idsL]; all_goals fail), by (simp [D.ids, D.idsL]; all_goals fail), by (simp [D.tks, D.tksL]; all_goals fail), by (simp [D.tks, D.tksL]; all_goals fail), by (simp; all_goals fail)⟩, rfl⟩ ?_; simp (disch := (refine Om.mk ?_; omega)) only [go_sem])
    | (with_reducible refine And.intro (by first | omega | (simp only [List.length_append, List.length_take, List.length_drop, List.length_cons, List.length_nil, List.length_map]; omega)) ?_)
    | ((with_reducible refine And.intro ?_ ?_); · first | (intro x hx; subst hx; rfl) | exact upR_mem fun _ _ => rfl | exact mapR_mem fun _ _ => rfl | (intro x; refine And.intro ?_ ?_ <;> (intros; subst_vars; rfl)))
    | fail
  all_goals first | (rw [endS, skip_scan, h]; rfl)
def kp73 : List (Nat × List Nat) := [(0, [1, 2]), (1, [4])]
attribute [go_sem] kp73
theorem implTermOk_fc (tk tk' : Tk) (rs t : List Int) : FC S 73 [] [] [] [.agg [.sl tk (rs.map (.int .i64))], .sl tk' (t.map (.int .i64))] (.bool (tst (TermOkP rs t))) [] [] := by
  refine fc_body Try.func73 rfl (by kernel_rfl) (by simp [Try.f73]) fun B => ?_
  simp only [Try.ntmps73, enumD, List.map_nil, List.map_cons, List.length_map, Nat.zero_add, Nat.reduceAdd]
  refine sw_bnd_agg 0 0 rfl rfl fun hb0_0 => ?_
  simp only [D.bnd, List.length_map] at hb0_0
  refine sw_bnd 1 rfl fun hb1 => ?_
  simp only [D.bnd, List.length_map] at hb1
  repeat' first
    | exact Bool.noConfusion h
    | refine sw_seq ?_
    | refine sw_block ?_
    | refine sw_skip ?_
    | refine sw_inBlock ?_
    | refine sw_go 0 kp73 fun K hK => ?_
    | refine fun (K : List Oper → LS → Prop) (hK : KOk S 0 _ _ _ K) => ?_
    | ((first | refine runL_go ?_ | refine runQ_go ?_); simp (disch := (refine Om.mk ?_; omega)) only [go_sem])
    | (refine hK.nil ?_; clear hK K; simp only [go_sem])
    | (refine runG_fork rfl rfl rfl rfl rfl (fun h => ?_) (fun h => ?_) <;> (try simp (disch := (refine Om.mk ?_; omega)) only [go_sem] at h))
    | (refine hK.skip rfl (by simp only [dstOk, Nat.reduceLT]) ?_)
    | (refine sw_cond rfl (fun h => ?_) (fun h => ?_) <;> (try simp (disch := (refine Om.mk ?_; omega)) only [go_sem] at h))
    | (refine sw_exit rfl ?_)
    | (refine sw_loopEnd ?_)
    | ((first | refine sw_ret (ret0 ?_) | refine sw_ret ?_); simp (disch := (refine Om.mk ?_; omega)) only [go_sem, Try.results73])
    | refine hK.call rfl rfl rfl (implSigOk_fc _ _) ⟨(by intro p hp; cases hp), rfl, rfl, (by simp only [dstOk, Nat.reduceLT])⟩ ?_
    | refine hK.call rfl rfl rfl (min_fc _ _ (by omega)) ⟨(by intro p hp; cases hp), rfl, rfl, (by simp only [dstOk, Nat.reduceLT])⟩ ?_
    | refine hK.call rfl rfl rfl (endAt_fc _ _ _ _ _ (by assumption) ((minAt_all (by omega)).1 (by assumption)) (by omega) (by omega)) ⟨(by intro p hp; cases hp), rfl, rfl, (by simp only [dstOk, Nat.reduceLT])⟩ ?_
    | (refine hK.fork rfl rfl rfl (fun h => ?_) (fun h => ?_) <;> (try simp (disch := (refine Om.mk ?_; omega)) only [go_sem] at h))
    | (with_reducible refine And.intro (by first | omega | (simp only [List.length_append, List.length_take, List.length_drop, List.length_cons, List.length_nil, List.length_map]; omega)) ?_)
    | ((with_reducible refine And.intro ?_ ?_); · first | (intro x hx; subst hx; rfl) | exact upR_mem fun _ _ => rfl | exact mapR_mem fun _ _ => rfl | (intro x; refine And.intro ?_ ?_ <;> (intros; subst_vars; rfl)))
    | fail
  · rename_i h1 h2 h3
    have h4 := (minAt_all (by omega)).1 h
    simp only [TermOkP, Int.toNat_zero]
    exact ⟨fun e => ⟨h1, by omega, e⟩, fun e => e.2.2⟩
  · intro e
    have := (minAt_all (c := -24) (by omega)).2 e.ge
    omega
  · rintro ⟨_, h1, _⟩; omega
  · rintro ⟨_, h1, _⟩; omega
  · rintro ⟨h1, _⟩; contradiction
end Go.Proofs.Ytldlochhiiogbaa
