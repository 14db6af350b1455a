/-
  A01b, LTy, one behind the other.
-/
import Derived.Test.YtmogobaaophknaaSet
import Derived.Test.YtmogobaaophknaaG0
import Derived.Test.YtmogobaaophknaaLgK7
section
namespace Go.Proofs.Ytmogobaaophknaa
open Go Go.Lg
set_option linter.unusedSimpArgs false
set_option maxHeartbeats 4000000
attribute [local irreducible] SW runL runQ runG runQG FC
def intoL : List Int → Int → List Int
 | [], n => [n]
 | x :: r, n => if x < n then x :: intoL r n else if x = n then x :: r else n :: x :: r
theorem mem_intoL (m : Int) : ∀ (xs : List Int) (n : Int), m ∈ intoL xs n ↔ m ∈ xs ∨ m = n
 | [], n => by simp [intoL]
 | x :: r, n => by
  simp only [intoL]
  split
  ·simp only [List.mem_cons, mem_intoL m r n, or_assoc]
  ·split
   ·rename_i h; subst h
    simp only [List.mem_cons]
    exact ⟨.inl, fun h => h.elim id .inl⟩
   ·simp only [List.mem_cons]
    exact ⟨fun h => h.elim .inr .inl, fun h => h.elim .inr .inl⟩
theorem intoL_at (n : Int) : ∀ (xs : List Int) (k : Nat), k ≤ xs.length → (∀ j < k, xs.getD j default < n) → intoL xs n = xs.take k ++ intoL (xs.drop k) n
 | xs, 0, _, _ => by simp
 | x :: r, k + 1, hk, h => by
  have h0 := h 0 (by omega)
  simp only [List.getD_cons_zero] at h0
  rw [intoL, if_pos h0, intoL_at n r k (by simpa using hk) (fun j hj => by simpa using h (j + 1) (by omega))]
  simp
 | [], k + 1, hk, _ => by simp at hk
theorem drop_cons {α : Type} [Inhabited α] {xs : List α} {k : Nat} (h : k < xs.length) : xs.drop k = xs.getD k default :: xs.drop (k + 1) := by
 rw [List.drop_eq_getElem_cons h]; simp [List.getD, List.getElem?_eq_getElem h]
def kp24 : List (Nat × List Nat) := [(0, [0, 1]), (1, [0, 1, 5]), (2, [0, 1, 5, 9]), (4, [0, 1, 5, 17]), (5, [4]), (3, [0, 1, 5]), (6, [4])]
attribute [go_sem] kp24
theorem l1Has_fc (tk : Tk) (xs : List Int) (n : Int) : FC S 24 [] [] [] [.sl tk (xs.map (.int .i64)), .int .i64 n] (.bool (tst (n ∈ xs))) [] [] := by
 refine fc_body Try.func24 rfl (by kernel_rfl) (by simp [Try.f24]) fun B => ?_
 simp only [Try.ntmps24, enumD, lst0, Nat.reduceAdd]
 refine sw_bnd 0 rfl fun hb0 => ?_
 simp only [D.bnd, List.length_map] at hb0
 repeat' first | refine sw_seq ?_ | refine sw_block ?_ | refine sw_inBlock ?_ | refine sw_skip ?_ | refine sw_go 0 kp24 fun K hK => ?_ | refine fun (K : KT) (hK : KOk S 0 _ _ _ K) => ?_ | ((first | refine runL_go ?_ | refine sw_ret (ret0 ?_) | refine sw_ret ?_); simp (disch := (refine Om.mk ?_; omega)) only [go_sem, Try.results24]) | (refine hK.nil ?_; clear hK K; simp only [go_sem]) | ((first | refine sw_cond rfl ?_ ?_) <;> intro h <;> try simp (disch := (refine Om.mk ?_; omega)) only [go_sem] at h) | refine sw_exit rfl ?_ | refine sw_loopEnd ?_ | (with_reducible refine And.intro (by first | omega | (simp only [lens]; omega)) ?_) | fail
 refine sw_loopU (ι := Nat) (fun i => [(5, .int .i64 i)]) (fun _ => []) (fun i => i ≤ xs.length ∧ (∀ j < i, ¬ xs.getD j default = n)) (fun i => xs.length - i) 0 (by (refine covers_mk0 rfl rfl ?_ ?_ ?_ ?_ <;> simp (disch := (refine Om.mk ?_; omega)) only [go_sem] <;> (try omega))) ⟨by omega, ?_⟩ (fun i ⟨hi, hj⟩ => ?_)
 rotate_left
 simp only [go_sem]
 repeat' first | refine sw_seq ?_ | refine sw_block ?_ | refine sw_inBlock ?_ | refine sw_skip ?_ | refine sw_go 0 kp24 fun K hK => ?_ | refine fun (K : KT) (hK : KOk S 0 _ _ _ K) => ?_ | ((first | refine runL_go ?_ | refine sw_ret (ret0 ?_) | refine sw_ret ?_); simp (disch := (refine Om.mk ?_; omega)) only [go_sem, Try.results24]) | (refine hK.nil ?_; clear hK K; simp only [go_sem]) | ((first | refine sw_cond rfl ?_ ?_) <;> intro h <;> try simp (disch := (refine Om.mk ?_; omega)) only [go_sem] at h) | refine sw_exit rfl ?_ | refine sw_loopEnd ?_ | (with_reducible refine And.intro (by first | omega | (simp only [lens]; omega)) ?_) | fail
 ·rw [← h]; exact getD_mem _ _ (by omega)
 ·exact ⟨i + 1, by (refine covers_mk0 rfl rfl ?_ ?_ ?_ ?_ <;> simp (disch := (refine Om.mk ?_; omega)) only [go_sem] <;> (try omega)), ⟨by omega, upto_succ hj h⟩, by omega⟩
 ·intro hm
  exact (forall_getD (P := fun x => ¬ x = n)).1 (fun j hj' => hj j (by omega)) n hm rfl
 ·intro j hj'; omega
def kp44 : List (Nat × List Nat) := [(0, [0, 1]), (1, [0, 1, 7, 8]), (2, [0, 1, 7, 8, 9]), (3, [0, 1, 5, 7, 8]), (4, [0, 1, 5, 7, 8, 16]), (5, [4]), (6, [0, 1, 7, 8]), (7, [4])]
attribute [go_sem] kp44
theorem index_fc (tk : Tk) (xs : List Int) (n : Int) : FC S 44 [] [] [] [.sl tk (xs.map (.int .i64)), .int .i64 n] (.int .i64 (fidx (fun x => x = n) xs)) [] [] := by
 refine fc_body Try.func44 rfl (by kernel_rfl) (by simp [Try.f44]) fun B => ?_
 simp only [Try.ntmps44, enumD, lst0, Nat.reduceAdd]
 refine sw_bnd 0 rfl fun hb0 => ?_
 simp only [D.bnd, List.length_map] at hb0
 repeat' first | refine sw_seq ?_ | refine sw_block ?_ | refine sw_inBlock ?_ | refine sw_skip ?_ | refine sw_go 0 kp44 fun K hK => ?_ | refine fun (K : KT) (hK : KOk S 0 _ _ _ K) => ?_ | ((first | refine runL_go ?_ | refine sw_ret (ret0 ?_) | refine sw_ret ?_); simp (disch := (refine Om.mk ?_; omega)) only [go_sem, Try.results44]) | (refine hK.nil ?_; clear hK K; simp only [go_sem]) | ((first | refine sw_cond rfl ?_ ?_) <;> intro h <;> try simp (disch := (refine Om.mk ?_; omega)) only [go_sem] at h) | refine sw_exit rfl ?_ | refine sw_loopEnd ?_ | (with_reducible refine And.intro (by first | omega | (simp only [lens]; omega)) ?_) | fail
 refine sw_loopU (ι := Nat) (fun i => [(8, .int .i64 i)]) (fun _ => []) (fun i => i ≤ xs.length ∧ (∀ j < i, ¬ xs.getD j default = n)) (fun i => xs.length - i) 0 (by (refine covers_mk0 rfl rfl ?_ ?_ ?_ ?_ <;> simp (disch := (refine Om.mk ?_; omega)) only [go_sem] <;> (try omega))) ⟨by omega, ?_⟩ (fun i ⟨hi, hj⟩ => ?_)
 rotate_left
 simp only [go_sem]
 repeat' first | refine sw_seq ?_ | refine sw_block ?_ | refine sw_inBlock ?_ | refine sw_skip ?_ | refine sw_go 0 kp44 fun K hK => ?_ | refine fun (K : KT) (hK : KOk S 0 _ _ _ K) => ?_ | ((first | refine runL_go ?_ | refine sw_ret (ret0 ?_) | refine sw_ret ?_); simp (disch := (refine Om.mk ?_; omega)) only [go_sem, Try.results44]) | (refine hK.nil ?_; clear hK K; simp only [go_sem]) | ((first | refine sw_cond rfl ?_ ?_) <;> intro h <;> try simp (disch := (refine Om.mk ?_; omega)) only [go_sem] at h) | refine sw_exit rfl ?_ | refine sw_loopEnd ?_ | (with_reducible refine And.intro (by first | omega | (simp only [lens]; omega)) ?_) | fail
 ·exact (fidx_at (p := fun x => x = n) hj (by omega) h.symm).symm
 ·exact ⟨i + 1, by (refine covers_mk0 rfl rfl ?_ ?_ ?_ ?_ <;> simp (disch := (refine Om.mk ?_; omega)) only [go_sem] <;> (try omega)), ⟨by omega, upto_succ hj fun e => h e.symm⟩, by omega⟩
 ·exact (fidx_none (p := fun x => x = n) fun j hj' => hj j (by omega)).symm
 ·intro j hj'; omega
def kp32 : List (Nat × List Nat) := [(0, [0, 1]), (1, [4])]
attribute [go_sem] kp32
theorem contains_fc (tk : Tk) (xs : List Int) (n : Int) : FC S 32 [] [] [] [.sl tk (xs.map (.int .i64)), .int .i64 n] (.bool (tst (n ∈ xs))) [] [] := by
 refine fc_body Try.func32 rfl (by kernel_rfl) (by simp [Try.f32]) fun B => ?_
 simp only [Try.ntmps32, enumD, lst0, Nat.reduceAdd]
 repeat' first | refine sw_seq ?_ | refine sw_skip ?_ | refine sw_go 0 kp32 fun K hK => ?_ | refine fun (K : KT) (hK : KOk S 0 _ _ _ K) => ?_ | ((first | refine runL_go ?_ | refine sw_ret (ret0 ?_) | refine sw_ret ?_); simp (disch := (refine Om.mk ?_; omega)) only [go_sem, Try.results32]) | (refine hK.nil ?_; clear hK K; simp only [go_sem]) | refine hK.c0 rfl rfl rfl (index_fc _ _ _) rfl rfl rfl ?_ | (with_reducible refine And.intro (by first | omega | (simp only [lens]; omega)) ?_) | fail
 rw [fidx_ge (p := fun x => x = n)]
 exact ⟨fun ⟨x, hx, e⟩ => e ▸ hx, fun h => ⟨n, h, rfl⟩⟩
def kp26 : List (Nat × List Nat) := [(0, [0]), (1, [2])]
attribute [go_sem] kp26
theorem l1Copy_fc (tk : Tk) (xs : List Int) (hl : xs.length ≤ 17592186044416) : FC S 26 [] [] [] [.sl tk (xs.map (.int .i64))] (.sl (.own 0 2 1) (xs.map (.int .i64))) [] [0] := by
 refine FC.args (args' := [.sl .any (xs.map (.int .i64))]) ?_ (by simp only [go_sem])
 refine fc_body1 Try.func26 rfl (by kernel_rfl) (by simp [Try.f26]) fun B => ?_
 simp only [Try.ntmps26, enumD, lst0, Nat.reduceAdd]
 refine sw_bnd 0 rfl fun hb0 => ?_
 simp only [D.bnd, List.length_map] at hb0
 repeat' first | refine sw_seq ?_ | refine sw_skip ?_ | refine sw_go 0 kp26 fun K hK => ?_ | refine fun (K : KT) (hK : KOk S 0 _ _ _ K) => ?_ | ((first | refine runL_go ?_ | refine sw_ret (ret0 ?_) | refine sw_ret ?_); simp (disch := (refine Om.mk ?_; omega)) only [go_sem, Try.results26]) | (refine hK.nil ?_; clear hK K; simp only [go_sem]) | refine sw_loopEnd ?_ | (with_reducible refine And.intro (by first | omega | (simp only [lens]; omega)) ?_) | ((with_reducible refine And.intro ?_ ?_); · first | (intro x hx; subst hx; rfl) | (intro x; refine And.intro ?_ ?_ <;> (intros; subst_vars; rfl))) | fail
 exact ret1_own rfl (by simp)
def kp36 : List (Nat × List Nat) := [(0, [0, 1]), (1, [0, 1, 5]), (2, [0, 1, 5, 18]), (3, [0, 1, 5]), (4, [0, 1, 5, 32]), (5, [4]), (6, [0, 5, 6]), (7, [4])]
attribute [go_sem] kp36
theorem l1Into_fc (tk : Tk) (xs : List Int) (n : Int) (hl : xs.length ≤ 1099511627776) : FC S 36 [] [] [] [.sl tk (xs.map (.int .i64)), .int .i64 n] (.sl .any ((intoL xs n).map (.int .i64))) [] [] := by
 refine FC.args (args' := [.sl .any (xs.map (.int .i64)), .int .i64 n]) ?_ (by simp only [go_sem])
 refine fc_body Try.func36 rfl (by kernel_rfl) (by simp [Try.f36]) fun B => ?_
 simp only [Try.ntmps36, enumD, lst0, Nat.reduceAdd]
 refine sw_bnd 0 rfl fun hb0 => ?_
 simp only [D.bnd, List.length_map] at hb0
 repeat' first | refine sw_seq ?_ | refine sw_block ?_ | refine sw_inBlock ?_ | refine sw_skip ?_ | refine sw_go 0 kp36 fun K hK => ?_ | refine fun (K : KT) (hK : KOk S 0 _ _ _ K) => ?_ | ((first | refine runL_go ?_ | refine sw_ret (ret0 ?_) | refine sw_ret ?_); simp (disch := (refine Om.mk ?_; omega)) only [go_sem, Try.results36]) | (refine hK.nil ?_; clear hK K; simp only [go_sem]) | ((first | refine runG_fork rfl rfl rfl rfl rfl ?_ ?_ | refine sw_cond rfl ?_ ?_) <;> intro h <;> try simp (disch := (refine Om.mk ?_; omega)) only [go_sem] at h) | refine hK.skp rfl rfl ?_ | refine sw_exit rfl ?_ | refine sw_loopEnd ?_ | (refine hK.fork rfl rfl rfl ?_ ?_ <;> intro h <;> try simp (disch := (refine Om.mk ?_; omega)) only [go_sem] at h) | (with_reducible refine And.intro (by first | omega | (simp only [lens]; omega)) ?_) | ((with_reducible refine And.intro ?_ ?_); · first | (intro x hx; subst hx; rfl) | (intro x; refine And.intro ?_ ?_ <;> (intros; subst_vars; rfl))) | fail
 refine sw_loopU (ι := Nat) (fun i => [(5, .int .i64 i)]) (fun _ => []) (fun i => i ≤ xs.length ∧ (∀ j < i, xs.getD j default < n)) (fun i => xs.length - i) 0 (by (refine covers_mk0 rfl rfl ?_ ?_ ?_ ?_ <;> simp (disch := (refine Om.mk ?_; omega)) only [go_sem] <;> (try omega))) ⟨by omega, ?_⟩ (fun i ⟨hi, hj⟩ => ?_)
 rotate_left
 simp only [go_sem]
 have key := intoL_at n xs i hi hj
 have hd : i < xs.length → xs.drop i = _ := drop_cons
 have hlt : (xs.take i).length ≤ 1099511627776 := by simp; omega
 repeat' first | refine sw_seq ?_ | refine sw_block ?_ | refine sw_inBlock ?_ | refine sw_skip ?_ | refine sw_go 0 kp36 fun K hK => ?_ | refine fun (K : KT) (hK : KOk S 0 _ _ _ K) => ?_ | ((first | refine runL_go ?_ | refine sw_ret (ret0 ?_) | refine sw_ret ?_); simp (disch := (refine Om.mk ?_; omega)) only [go_sem, Try.results36]) | (refine hK.nil ?_; clear hK K; simp only [go_sem]) | ((first | refine runG_fork rfl rfl rfl rfl rfl ?_ ?_ | refine sw_cond rfl ?_ ?_) <;> intro h <;> try simp (disch := (refine Om.mk ?_; omega)) only [go_sem] at h) | refine hK.skp rfl rfl ?_ | refine sw_exit rfl ?_ | refine sw_loopEnd ?_ | (refine hK.callB rfl rfl rfl (l1Copy_fc .any (xs.take i) (by omega)) ⟨⟨by simp only [Nat.reduceLT], (by first | (simp; all_goals fail) | (simp [LS.getBox, Lg.look]; all_goals fail)), by (simp [Lg.look]; all_goals fail), by (simp; all_goals fail), by (simp; all_goals fail)⟩, ⟨by (simp [D.ids, D.idsL]; all_goals fail), by (simp [D.ids, D.idsL]; all_goals fail), by (simp [D.tks, D.tksL]; all_goals fail), by (simp [D.tks, D.tksL]; all_goals fail), by (simp; all_goals fail)⟩, rfl⟩ ?_; simp (disch := (refine Om.mk ?_; omega)) only [go_sem]) | (refine hK.fork rfl rfl rfl ?_ ?_ <;> intro h <;> try simp (disch := (refine Om.mk ?_; omega)) only [go_sem] at h) | (with_reducible refine And.intro (by first | omega | (simp only [lens]; omega)) ?_) | ((with_reducible refine And.intro ?_ ?_); · first | (intro x hx; subst hx; rfl) | (intro x; refine And.intro ?_ ?_ <;> (intros; subst_vars; rfl))) | fail
 ·exact ⟨i + 1, by (refine covers_mk0 rfl rfl ?_ ?_ ?_ ?_ <;> simp (disch := (refine Om.mk ?_; omega)) only [go_sem] <;> (try omega)), ⟨by omega, upto_succ hj h⟩, by omega⟩
 all_goals first
  | (intro j hj'; omega)
  | (rw [key, hd (by omega), intoL, if_neg (by omega), if_pos (by assumption), ← hd (by omega), List.take_append_drop])
  | (rw [key, hd (by omega), intoL, if_neg (by omega), if_neg (by assumption), List.append_assoc]; rfl)
  | (rw [key, show xs.drop i = [] from List.drop_of_length_le (by omega), intoL, List.append_nil])
end Go.Proofs.Ytmogobaaophknaa
end
section
namespace Go.Proofs.Ytmogobaaophknaa
open Go Go.Lg
set_option linter.unusedSimpArgs false
set_option linter.unusedVariables false
set_option maxHeartbeats 4000000
attribute [local irreducible] SW runL runQ runG runQG FC Ret Ret1
def Int64SL (p : List Nat) (xs : List Int) : D := .sl (.lab p) (xs.map (.int .i64))
attribute [go_sem] Int64SL
theorem le_Int64SL (p : List Nat) (xs : List Int) : D.le (Int64SL p xs) (.sl .any (xs.map (.int .i64))) := .any
def Int64SSL (p : List Nat) (xs : List (List Int)) : D := .sl (.lab p) (mapR (fun i y => Int64SL (p ++ [i] ++ [0]) y) xs)
attribute [go_sem] Int64SSL
theorem le_Int64SSL (p : List Nat) (xs : List (List Int)) : D.le (Int64SSL p xs) (.sl .any (xs.map IntsD)) := le_mapR xs fun j x => ⟨le_Int64SL _ _, trivial⟩
end Go.Proofs.Ytmogobaaophknaa
end
