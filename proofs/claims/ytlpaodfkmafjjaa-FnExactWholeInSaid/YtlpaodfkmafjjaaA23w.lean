/-
  WholeIn, the reference's side: all lists of states, one after another.
-/
import Derived.Test.YtlpaodfkmafjjaaA23e
import Derived.Test.YtlpaodfkmafjjaaA01b
namespace Go.Proofs.Ytlpaodfkmafjjaa
open Go Go.Lg
set_option linter.unusedSimpArgs false
set_option linter.unusedVariables false
set_option maxHeartbeats 4000000
attribute [local irreducible] SW runL runQ runG runQG FC Ret1
def numR (s : Nat) : List Int → Nat
  | [] => 0
  | x :: r => x.toNat + s * numR s r
def nextR (n : Int) : List Int → List Int × Bool
  | [] => ([], false)
  | x :: r => if x + 1 < n then ((x + 1) :: r, true) else (0 :: (nextR n r).1, (nextR n r).2)
def nextL (n : Int) (xs : List Int) : List Int × Bool := ((nextR n xs.reverse).1.reverse, (nextR n xs.reverse).2)
def ValidL (s : Nat) (l : List Int) : Prop := ∀ x ∈ l, 0 ≤ x ∧ x < s
theorem numR_lt {s : Nat} : ∀ {l : List Int}, ValidL s l → numR s l < s ^ l.length
  | [], _ => by simp [numR]
  | x :: r, h => by
    have h1 := h x List.mem_cons_self
    have ih := numR_lt (l := r) fun y hy => h y (List.mem_cons_of_mem _ hy)
    simp only [numR, List.length_cons, Nat.pow_succ]
    have : s * numR s r + s ≤ s ^ r.length * s := by
      rw [Nat.mul_comm (s ^ r.length) s, ← Nat.mul_succ]
      exact Nat.mul_le_mul_left s ih
    omega
theorem numR_inj {s : Nat} : ∀ {l m : List Int}, ValidL s l → ValidL s m → l.length = m.length → numR s l = numR s m → l = m
  | [], [], _, _, _, _ => rfl
  | [], _ :: _, _, _, h, _ => by simp at h
  | _ :: _, [], _, _, h, _ => by simp at h
  | x :: l, y :: m, hl, hm, hn, h => by
    have h1 := hl x List.mem_cons_self
    have h2 := hm y List.mem_cons_self
    simp only [numR] at h
    have e1 : (x.toNat + s * numR s l) % s = x.toNat := by rw [Nat.add_mul_mod_self_left, Nat.mod_eq_of_lt (by omega)]
    have e2 : (y.toNat + s * numR s m) % s = y.toNat := by rw [Nat.add_mul_mod_self_left, Nat.mod_eq_of_lt (by omega)]
    have e3 : x.toNat = y.toNat := by rw [← e1, h, e2]
    have e4 : s * numR s l = s * numR s m := by omega
    have e5 := Nat.eq_of_mul_eq_mul_left (by omega) e4
    rw [numR_inj (l := l) (m := m) (fun z hz => hl z (List.mem_cons_of_mem _ hz)) (fun z hz => hm z (List.mem_cons_of_mem _ hz)) (by simpa using hn) e5, show x = y by omega]
theorem nextR_ok {s : Nat} (hs : 1 ≤ s) : ∀ {l : List Int}, ValidL s l → ValidL s (nextR s l).1 ∧ (nextR s l).1.length = l.length ∧ ((nextR s l).2 = true → numR s (nextR s l).1 = numR s l + 1) ∧ ((nextR s l).2 = false → numR s l + 1 = s ^ l.length)
  | [], _ => ⟨fun x hx => (by cases hx), rfl, fun h => (by cases h), fun _ => (by simp [numR])⟩
  | x :: r, h => by
    have h1 := h x List.mem_cons_self
    have hr : ValidL s r := fun y hy => h y (List.mem_cons_of_mem _ hy)
    obtain ⟨i1, i2, i3, i4⟩ := nextR_ok hs (l := r) hr
    simp only [nextR]
    split
    · rename_i hc
      refine ⟨fun y hy => ?_, rfl, fun _ => ?_, fun h => (by cases h)⟩
      · rcases List.mem_cons.1 hy with rfl | hy
        · omega
        · exact hr y hy
      · simp only [numR]; omega
    · rename_i hc
      refine ⟨fun y hy => ?_, by simp [i2], fun hf => ?_, fun hf => ?_⟩
      · rcases List.mem_cons.1 hy with rfl | hy
        · omega
        · exact i1 y hy
      · simp only [numR, i3 hf, Nat.mul_add]; omega
      · have := i4 hf
        simp only [numR, List.length_cons, Nat.pow_succ, ← this]
        rw [Nat.mul_comm (numR s r + 1) s, Nat.mul_add]; omega
def stepL (xs : List Int) (k : Nat) : List Int := xs.take k ++ List.replicate (xs.length - k) 0
theorem stepL_len (xs : List Int) (k : Nat) (h : k ≤ xs.length) : (stepL xs k).length = xs.length := by simp [stepL]; omega
theorem stepL_split (xs : List Int) (k : Nat) (h : k < xs.length) : stepL xs (k + 1) = xs.take k ++ xs.getD k default :: List.replicate (xs.length - (k + 1)) 0 := by
  unfold stepL
  rw [List.take_succ_eq_append_getElem h, List.append_assoc]
  simp [List.getD, List.getElem?_eq_getElem h]
theorem set_split (a b : List Int) (x y : Int) : (a ++ x :: b).set a.length y = a ++ y :: b := by
  induction a with
  | nil => rfl
  | cons c a ih => simp [ih]
theorem set_len_app (a : List Int) (k : Nat) (b : List Int) {x y : Int} (h : a.length = k) : (a ++ x :: b).set k y = a ++ y :: b := by subst h; exact set_split a b x y
theorem stepL_set (xs : List Int) (k : Nat) (h : k < xs.length) (v : Int) : (stepL xs (k + 1)).set k v = xs.take k ++ v :: List.replicate (xs.length - (k + 1)) 0 := by
  rw [stepL_split xs k h]
  have hs := set_split (xs.take k) (List.replicate (xs.length - (k + 1)) 0) (xs.getD k default) v
  rwa [show (xs.take k).length = k by simp; omega] at hs
theorem stepL_get (xs : List Int) (k : Nat) (h : k < xs.length) : (stepL xs (k + 1)).getD k default = xs.getD k default := by
  rw [stepL_split xs k h]
  have : (xs.take k).length = k := by simp; omega
  simp [List.getD, List.getElem?_append, this]
theorem take_rev (xs : List Int) (k : Nat) (h : k < xs.length) : (xs.take (k + 1)).reverse = xs.getD k default :: (xs.take k).reverse := by
  rw [List.take_succ_eq_append_getElem h]
  simp [List.getD, List.getElem?_eq_getElem h]
def NextInv (n : Int) (xs : List Int) (k : Nat) : Prop := nextR n xs.reverse = (List.replicate (xs.length - k) 0 ++ (nextR n (xs.take k).reverse).1, (nextR n (xs.take k).reverse).2)
theorem nextInv_start (n : Int) (xs : List Int) : NextInv n xs xs.length := by simp [NextInv]
theorem nextInv_yes {n : Int} {xs : List Int} {k : Nat} (hk : k < xs.length) (h : NextInv n xs (k + 1)) (hx : xs.getD k default + 1 < n) : nextL n xs = (xs.take k ++ (xs.getD k default + 1) :: List.replicate (xs.length - (k + 1)) 0, true) := by
  unfold NextInv at h
  rw [take_rev xs k hk] at h
  simp only [nextR, if_pos hx] at h
  unfold nextL
  rw [h]
  simp
theorem nextInv_no {n : Int} {xs : List Int} {k : Nat} (hk : k < xs.length) (h : NextInv n xs (k + 1)) (hx : ¬ xs.getD k default + 1 < n) : NextInv n xs k := by
  unfold NextInv at h ⊢
  rw [take_rev xs k hk] at h
  simp only [nextR, if_neg hx] at h
  rw [h, show xs.length - k = (xs.length - (k + 1)) + 1 by omega, List.replicate_succ']
  simp
theorem nextInv_end {n : Int} {xs : List Int} (h : NextInv n xs 0) : nextL n xs = (stepL xs 0, false) := by
  unfold NextInv at h
  unfold nextL
  rw [h]
  simp [nextR, stepL]
def kp103 : List (Nat × List Nat) := [(0, [0, 1]), (1, [1, 6]), (2, [1, 6, 7]), (3, [1, 6, 7, 14]), (5, [1, 6, 7]), (6, [1, 6, 7, 30]), (7, [4, 5]), (8, [1, 6, 7]), (4, [1, 6, 7]), (9, [4, 5])]
attribute [go_sem] kp103
theorem nextList0_fc (tk : Tk) (n : Int) : FC S 103 [] [] [] [.sl tk ([].map (.int .i64)), .int .i64 n] (.tup [.sl .any ([].map (.int .i64)), .bool false]) [] [] := by
  refine FC.args (args' := [.sl .any ([].map (.int .i64)), .int .i64 n]) ?_ (by simp only [go_sem, Nat.reduceAdd, Nat.reduceMul, Nat.reduceLT, Nat.reduceLeDiff, Nat.reduceEqDiff, Nat.reduceBEq, Nat.reduceSub, ↓reduceIte, reduceCtorEq])
  refine fc_body Try.func103 rfl (by kernel_rfl) (by simp [Try.f103]) fun B => ?_
  simp only [Try.ntmps103, enumD, List.map_nil, List.map_cons, List.length_map, Nat.zero_add, Nat.reduceAdd]
  refine sw_bnd 0 rfl fun hb0 => ?_
  simp only [D.bnd, List.length_map] at hb0
  repeat' first
    | exact Bool.noConfusion h
    | refine sw_seq ?_
    | refine sw_block ?_
    | refine sw_skip ?_
    | refine sw_inBlock ?_
    | refine sw_go 0 kp103 fun K hK => ?_
    | refine fun (K : List Oper → LS → Prop) (hK : KOk S 0 _ _ _ K) => ?_
    | refine sw_goD kp103 (by kernel_rfl) fun K hK => ?_
    | ((first | refine runL_go ?_ | refine runQ_go ?_); simp (disch := (refine Om.mk ?_; omega)) only [go_sem, Nat.reduceAdd, Nat.reduceMul, Nat.reduceLT, Nat.reduceLeDiff, Nat.reduceEqDiff, Nat.reduceBEq, Nat.reduceSub, ↓reduceIte, reduceCtorEq])
    | (refine hK.nil ?_; clear hK K; simp only [go_sem, Nat.reduceAdd, Nat.reduceMul, Nat.reduceLT, Nat.reduceLeDiff, Nat.reduceEqDiff, Nat.reduceBEq, Nat.reduceSub, ↓reduceIte, reduceCtorEq])
    | (refine runG_fork rfl rfl rfl rfl rfl (fun h => ?_) (fun h => ?_) <;> (try simp (disch := (refine Om.mk ?_; omega)) only [go_sem, Nat.reduceAdd, Nat.reduceMul, Nat.reduceLT, Nat.reduceLeDiff, Nat.reduceEqDiff, Nat.reduceBEq, Nat.reduceSub, ↓reduceIte, reduceCtorEq] at h))
    | (refine runQG_fork rfl rfl rfl rfl rfl (fun h => ?_) (fun h => ?_) <;> (try simp (disch := (refine Om.mk ?_; omega)) only [go_sem, Nat.reduceAdd, Nat.reduceMul, Nat.reduceLT, Nat.reduceLeDiff, Nat.reduceEqDiff, Nat.reduceBEq, Nat.reduceSub, ↓reduceIte, reduceCtorEq] at h))
    | (refine hK.skip rfl (by simp only [dstOk, Nat.reduceLT]) ?_)
    | (refine sw_cond rfl (fun h => ?_) (fun h => ?_) <;> (try simp (disch := (refine Om.mk ?_; omega)) only [go_sem, Nat.reduceAdd, Nat.reduceMul, Nat.reduceLT, Nat.reduceLeDiff, Nat.reduceEqDiff, Nat.reduceBEq, Nat.reduceSub, ↓reduceIte, reduceCtorEq] at h))
    | (refine sw_exit rfl ?_)
    | (refine sw_loopEnd ?_)
    | ((first | refine sw_ret (ret0 ?_) | refine sw_ret ?_); simp (disch := (refine Om.mk ?_; omega)) only [go_sem, Nat.reduceAdd, Nat.reduceMul, Nat.reduceLT, Nat.reduceLeDiff, Nat.reduceEqDiff, Nat.reduceBEq, Nat.reduceSub, ↓reduceIte, reduceCtorEq, Try.results103])
    | (refine hK.callB rfl rfl rfl (l1Copy_fc .any [] (by simp)) ⟨⟨by simp only [Nat.reduceLT], by simp, by simp [Lg.look], by simp, by simp⟩, ⟨by simp [D.ids], by simp [D.ids, D.idsL], by simp [D.tks], by simp [D.tks, D.tksL], by simp⟩, rfl⟩ ?_; simp (disch := (refine Om.mk ?_; omega)) only [go_sem, Nat.reduceAdd, Nat.reduceMul, Nat.reduceLT, Nat.reduceLeDiff, Nat.reduceEqDiff, Nat.reduceBEq, Nat.reduceSub, ↓reduceIte, reduceCtorEq])
    | (refine hK.fork rfl rfl rfl (fun h => ?_) (fun h => ?_) <;> (try simp (disch := (refine Om.mk ?_; omega)) only [go_sem, Nat.reduceAdd, Nat.reduceMul, Nat.reduceLT, Nat.reduceLeDiff, Nat.reduceEqDiff, Nat.reduceBEq, Nat.reduceSub, ↓reduceIte, reduceCtorEq] at h))
    | (with_reducible refine And.intro (by first | omega | (simp only [List.length_append, List.length_take, List.length_drop, List.length_cons, List.length_nil]; omega)) ?_)
    | ((with_reducible refine And.intro ?_ ?_); · first | (intro x hx; subst hx; rfl) | exact upR_mem fun _ _ => rfl | (intro x; refine And.intro ?_ ?_ <;> (intros; subst_vars; rfl)))
    | fail
  refine sw_loopU (ι := Nat) (fun p => [(7, .int .i64 (-1))]) (fun p => []) (fun p => True) (fun p => p) 0 (by (refine covers_mk0 rfl rfl ?_ ?_ ?_ ?_ <;> simp (disch := (refine Om.mk ?_; omega)) only [go_sem, Nat.reduceAdd, Nat.reduceMul, Nat.reduceLT, Nat.reduceLeDiff, Nat.reduceEqDiff, Nat.reduceBEq, Nat.reduceSub, ↓reduceIte, reduceCtorEq] <;> (try omega))) ?_ (fun p hp => ?_)
  rotate_left
  simp only [go_sem, Nat.reduceAdd, Nat.reduceMul, Nat.reduceLT, Nat.reduceLeDiff, Nat.reduceEqDiff, Nat.reduceBEq, Nat.reduceSub, ↓reduceIte, reduceCtorEq]
  repeat' first
    | exact Bool.noConfusion h
    | refine sw_seq ?_
    | refine sw_block ?_
    | refine sw_skip ?_
    | refine sw_inBlock ?_
    | refine sw_go 0 kp103 fun K hK => ?_
    | refine fun (K : List Oper → LS → Prop) (hK : KOk S 0 _ _ _ K) => ?_
    | refine sw_goD kp103 (by kernel_rfl) fun K hK => ?_
    | ((first | refine runL_go ?_ | refine runQ_go ?_); simp (disch := (refine Om.mk ?_; omega)) only [go_sem, Nat.reduceAdd, Nat.reduceMul, Nat.reduceLT, Nat.reduceLeDiff, Nat.reduceEqDiff, Nat.reduceBEq, Nat.reduceSub, ↓reduceIte, reduceCtorEq])
    | (refine hK.nil ?_; clear hK K; simp only [go_sem, Nat.reduceAdd, Nat.reduceMul, Nat.reduceLT, Nat.reduceLeDiff, Nat.reduceEqDiff, Nat.reduceBEq, Nat.reduceSub, ↓reduceIte, reduceCtorEq])
    | (refine runG_fork rfl rfl rfl rfl rfl (fun h => ?_) (fun h => ?_) <;> (try simp (disch := (refine Om.mk ?_; omega)) only [go_sem, Nat.reduceAdd, Nat.reduceMul, Nat.reduceLT, Nat.reduceLeDiff, Nat.reduceEqDiff, Nat.reduceBEq, Nat.reduceSub, ↓reduceIte, reduceCtorEq] at h))
    | (refine runQG_fork rfl rfl rfl rfl rfl (fun h => ?_) (fun h => ?_) <;> (try simp (disch := (refine Om.mk ?_; omega)) only [go_sem, Nat.reduceAdd, Nat.reduceMul, Nat.reduceLT, Nat.reduceLeDiff, Nat.reduceEqDiff, Nat.reduceBEq, Nat.reduceSub, ↓reduceIte, reduceCtorEq] at h))
    | (refine hK.skip rfl (by simp only [dstOk, Nat.reduceLT]) ?_)
    | (refine sw_cond rfl (fun h => ?_) (fun h => ?_) <;> (try simp (disch := (refine Om.mk ?_; omega)) only [go_sem, Nat.reduceAdd, Nat.reduceMul, Nat.reduceLT, Nat.reduceLeDiff, Nat.reduceEqDiff, Nat.reduceBEq, Nat.reduceSub, ↓reduceIte, reduceCtorEq] at h))
    | (refine sw_exit rfl ?_)
    | (refine sw_loopEnd ?_)
    | ((first | refine sw_ret (ret0 ?_) | refine sw_ret ?_); simp (disch := (refine Om.mk ?_; omega)) only [go_sem, Nat.reduceAdd, Nat.reduceMul, Nat.reduceLT, Nat.reduceLeDiff, Nat.reduceEqDiff, Nat.reduceBEq, Nat.reduceSub, ↓reduceIte, reduceCtorEq, Try.results103])
    | (refine hK.fork rfl rfl rfl (fun h => ?_) (fun h => ?_) <;> (try simp (disch := (refine Om.mk ?_; omega)) only [go_sem, Nat.reduceAdd, Nat.reduceMul, Nat.reduceLT, Nat.reduceLeDiff, Nat.reduceEqDiff, Nat.reduceBEq, Nat.reduceSub, ↓reduceIte, reduceCtorEq] at h))
    | (with_reducible refine And.intro (by first | omega | (simp only [List.length_append, List.length_take, List.length_drop, List.length_cons, List.length_nil]; omega)) ?_)
    | ((with_reducible refine And.intro ?_ ?_); · first | (intro x hx; subst hx; rfl) | exact upR_mem fun _ _ => rfl | (intro x; refine And.intro ?_ ?_ <;> (intros; subst_vars; rfl)))
    | fail
  · exfalso; omega
  · trivial
theorem nextList1_fc (tk : Tk) (xs : List Int) (n : Int) (hne : xs ≠ []) (hl : xs.length ≤ 100) (hx : ∀ x ∈ xs, 0 ≤ x ∧ x ≤ 1000) : FC S 103 [] [] [] [.sl tk (xs.map (.int .i64)), .int .i64 n] (.tup [.sl .any ((nextL n xs).1.map (.int .i64)), .bool (nextL n xs).2]) [] [] := by
  refine FC.args (args' := [.sl .any (xs.map (.int .i64)), .int .i64 n]) ?_ (by simp only [go_sem, Nat.reduceAdd, Nat.reduceMul, Nat.reduceLT, Nat.reduceLeDiff, Nat.reduceEqDiff, Nat.reduceBEq, Nat.reduceSub, ↓reduceIte, reduceCtorEq])
  refine fc_body Try.func103 rfl (by kernel_rfl) (by simp [Try.f103]) fun B => ?_
  simp only [Try.ntmps103, enumD, List.map_nil, List.map_cons, List.length_map, Nat.zero_add, Nat.reduceAdd]
  refine sw_bnd 0 rfl fun hb0 => ?_
  simp only [D.bnd, List.length_map] at hb0
  repeat' first
    | exact Bool.noConfusion h
    | refine sw_seq ?_
    | refine sw_block ?_
    | refine sw_skip ?_
    | refine sw_inBlock ?_
    | refine sw_go 0 kp103 fun K hK => ?_
    | refine fun (K : List Oper → LS → Prop) (hK : KOk S 0 _ _ _ K) => ?_
    | refine sw_goD kp103 (by kernel_rfl) fun K hK => ?_
    | ((first | refine runL_go ?_ | refine runQ_go ?_); simp (disch := (refine Om.mk ?_; omega)) only [go_sem, Nat.reduceAdd, Nat.reduceMul, Nat.reduceLT, Nat.reduceLeDiff, Nat.reduceEqDiff, Nat.reduceBEq, Nat.reduceSub, ↓reduceIte, reduceCtorEq])
    | (refine hK.nil ?_; clear hK K; simp only [go_sem, Nat.reduceAdd, Nat.reduceMul, Nat.reduceLT, Nat.reduceLeDiff, Nat.reduceEqDiff, Nat.reduceBEq, Nat.reduceSub, ↓reduceIte, reduceCtorEq])
    | (refine runG_fork rfl rfl rfl rfl rfl (fun h => ?_) (fun h => ?_) <;> (try simp (disch := (refine Om.mk ?_; omega)) only [go_sem, Nat.reduceAdd, Nat.reduceMul, Nat.reduceLT, Nat.reduceLeDiff, Nat.reduceEqDiff, Nat.reduceBEq, Nat.reduceSub, ↓reduceIte, reduceCtorEq] at h))
    | (refine runQG_fork rfl rfl rfl rfl rfl (fun h => ?_) (fun h => ?_) <;> (try simp (disch := (refine Om.mk ?_; omega)) only [go_sem, Nat.reduceAdd, Nat.reduceMul, Nat.reduceLT, Nat.reduceLeDiff, Nat.reduceEqDiff, Nat.reduceBEq, Nat.reduceSub, ↓reduceIte, reduceCtorEq] at h))
    | (refine hK.skip rfl (by simp only [dstOk, Nat.reduceLT]) ?_)
    | (refine sw_cond rfl (fun h => ?_) (fun h => ?_) <;> (try simp (disch := (refine Om.mk ?_; omega)) only [go_sem, Nat.reduceAdd, Nat.reduceMul, Nat.reduceLT, Nat.reduceLeDiff, Nat.reduceEqDiff, Nat.reduceBEq, Nat.reduceSub, ↓reduceIte, reduceCtorEq] at h))
    | (refine sw_exit rfl ?_)
    | (refine sw_loopEnd ?_)
    | ((first | refine sw_ret (ret0 ?_) | refine sw_ret ?_); simp (disch := (refine Om.mk ?_; omega)) only [go_sem, Nat.reduceAdd, Nat.reduceMul, Nat.reduceLT, Nat.reduceLeDiff, Nat.reduceEqDiff, Nat.reduceBEq, Nat.reduceSub, ↓reduceIte, reduceCtorEq, Try.results103])
    | (refine hK.callT rfl rfl rfl (l1Copy_fc .any xs (by omega)) ⟨⟨by simp only [Nat.reduceLT], by simp, by simp [Lg.look]⟩, by assumption⟩ ?_; simp (disch := (refine Om.mk ?_; omega)) only [go_sem, Nat.reduceAdd, Nat.reduceMul, Nat.reduceLT, Nat.reduceLeDiff, Nat.reduceEqDiff, Nat.reduceBEq, Nat.reduceSub, ↓reduceIte, reduceCtorEq])
    | (refine hK.fork rfl rfl rfl (fun h => ?_) (fun h => ?_) <;> (try simp (disch := (refine Om.mk ?_; omega)) only [go_sem, Nat.reduceAdd, Nat.reduceMul, Nat.reduceLT, Nat.reduceLeDiff, Nat.reduceEqDiff, Nat.reduceBEq, Nat.reduceSub, ↓reduceIte, reduceCtorEq] at h))
    | (with_reducible refine And.intro (by first | omega | (simp only [List.length_append, List.length_take, List.length_drop, List.length_cons, List.length_nil]; omega)) ?_)
    | ((with_reducible refine And.intro ?_ ?_); · first | (intro x hx; subst hx; rfl) | exact upR_mem fun _ _ => rfl | (intro x; refine And.intro ?_ ?_ <;> (intros; subst_vars; rfl)))
    | fail
  refine sw_loopU (ι := Nat) (fun p => [(7, .int .i64 (p - 1 : Int))]) (fun p => [(9, (stepL xs p).map (.int .i64))]) (fun p => p ≤ xs.length ∧ NextInv n xs p) (fun p => p) xs.length (by (refine covers_mk0 rfl rfl ?_ ?_ ?_ ?_ <;> simp (disch := (refine Om.mk ?_; omega)) only [go_sem, Nat.reduceAdd, Nat.reduceMul, Nat.reduceLT, Nat.reduceLeDiff, Nat.reduceEqDiff, Nat.reduceBEq, Nat.reduceSub, ↓reduceIte, reduceCtorEq] <;> (try omega)); simp [stepL]) ?_ (fun p hp => ?_)
  rotate_left
  simp only [go_sem, Nat.reduceAdd, Nat.reduceMul, Nat.reduceLT, Nat.reduceLeDiff, Nat.reduceEqDiff, Nat.reduceBEq, Nat.reduceSub, ↓reduceIte, reduceCtorEq]
  obtain ⟨hp1, hp2⟩ := hp
  have hlen := stepL_len xs p hp1
  cases p with
  | zero =>
    have hz := nextInv_end hp2
    rw [hz]
    repeat' first
      | (refine sw_freezeAt 9 6 1 .any ((stepL xs 0).map (.int .i64)) rfl rfl (flat_ints _).symm (by simp [hlen]) (cells_one fun _ => rfl) (memOk_ints _) (.inl rfl) ?_; simp only [go_sem, Nat.reduceAdd, Nat.reduceMul, Nat.reduceLT, Nat.reduceLeDiff, Nat.reduceEqDiff, Nat.reduceBEq, Nat.reduceSub, ↓reduceIte, reduceCtorEq])
      | exact Bool.noConfusion h
      | refine sw_seq ?_
      | refine sw_block ?_
      | refine sw_skip ?_
      | refine sw_inBlock ?_
      | refine sw_go 0 kp103 fun K hK => ?_
      | refine fun (K : List Oper → LS → Prop) (hK : KOk S 0 _ _ _ K) => ?_
      | refine sw_goD kp103 (by kernel_rfl) fun K hK => ?_
      | ((first | refine runL_go ?_ | refine runQ_go ?_); simp (disch := (refine Om.mk ?_; omega)) only [go_sem, Nat.reduceAdd, Nat.reduceMul, Nat.reduceLT, Nat.reduceLeDiff, Nat.reduceEqDiff, Nat.reduceBEq, Nat.reduceSub, ↓reduceIte, reduceCtorEq])
      | (refine hK.nil ?_; clear hK K; simp only [go_sem, Nat.reduceAdd, Nat.reduceMul, Nat.reduceLT, Nat.reduceLeDiff, Nat.reduceEqDiff, Nat.reduceBEq, Nat.reduceSub, ↓reduceIte, reduceCtorEq])
      | (refine runG_fork rfl rfl rfl rfl rfl (fun h => ?_) (fun h => ?_) <;> (try simp (disch := (refine Om.mk ?_; omega)) only [go_sem, Nat.reduceAdd, Nat.reduceMul, Nat.reduceLT, Nat.reduceLeDiff, Nat.reduceEqDiff, Nat.reduceBEq, Nat.reduceSub, ↓reduceIte, reduceCtorEq] at h))
      | (refine runQG_fork rfl rfl rfl rfl rfl (fun h => ?_) (fun h => ?_) <;> (try simp (disch := (refine Om.mk ?_; omega)) only [go_sem, Nat.reduceAdd, Nat.reduceMul, Nat.reduceLT, Nat.reduceLeDiff, Nat.reduceEqDiff, Nat.reduceBEq, Nat.reduceSub, ↓reduceIte, reduceCtorEq] at h))
      | (refine hK.skip rfl (by simp only [dstOk, Nat.reduceLT]) ?_)
      | (refine sw_cond rfl (fun h => ?_) (fun h => ?_) <;> (try simp (disch := (refine Om.mk ?_; omega)) only [go_sem, Nat.reduceAdd, Nat.reduceMul, Nat.reduceLT, Nat.reduceLeDiff, Nat.reduceEqDiff, Nat.reduceBEq, Nat.reduceSub, ↓reduceIte, reduceCtorEq] at h))
      | (refine sw_exit rfl ?_)
      | (refine sw_loopEnd ?_)
      | ((first | refine sw_ret (ret0 ?_) | refine sw_ret ?_); simp (disch := (refine Om.mk ?_; omega)) only [go_sem, Nat.reduceAdd, Nat.reduceMul, Nat.reduceLT, Nat.reduceLeDiff, Nat.reduceEqDiff, Nat.reduceBEq, Nat.reduceSub, ↓reduceIte, reduceCtorEq, Try.results103])
      | (refine hK.fork rfl rfl rfl (fun h => ?_) (fun h => ?_) <;> (try simp (disch := (refine Om.mk ?_; omega)) only [go_sem, Nat.reduceAdd, Nat.reduceMul, Nat.reduceLT, Nat.reduceLeDiff, Nat.reduceEqDiff, Nat.reduceBEq, Nat.reduceSub, ↓reduceIte, reduceCtorEq] at h))
      | (with_reducible refine And.intro (by first | omega | (simp only [List.length_append, List.length_take, List.length_drop, List.length_cons, List.length_nil]; omega)) ?_)
      | ((with_reducible refine And.intro ?_ ?_); · first | (intro x hx; subst hx; rfl) | exact upR_mem fun _ _ => rfl | (intro x; refine And.intro ?_ ?_ <;> (intros; subst_vars; rfl)))
      | fail
    · exfalso; omega
    · exfalso; omega
  | succ k =>
    have hk : k < xs.length := by omega
    have hg := stepL_get xs k hk
    have hxk := hx _ (getD_mem xs k hk)
    have hset := stepL_set xs k hk
    have hlt : k < (stepL xs (k + 1)).length := by omega
    have hi : ((k + 1 : Nat) : Int) - 1 = (k : Int) := by omega
    have hl2 : ((stepL xs (k + 1)).set k ((stepL xs (k + 1)).getD k default + 1)).length = xs.length := by rw [List.length_set]; exact hlen
    rw [hi]
    repeat' first
      | (refine sw_freezeAt 7 6 1 .any (((stepL xs (k + 1)).set k ((stepL xs (k + 1)).getD k default + 1)).map (.int .i64)) rfl rfl (flat_ints _).symm (by simp [hlen]) (cells_one fun _ => rfl) (memOk_ints _) (.inl rfl) ?_; simp only [go_sem, Nat.reduceAdd, Nat.reduceMul, Nat.reduceLT, Nat.reduceLeDiff, Nat.reduceEqDiff, Nat.reduceBEq, Nat.reduceSub, ↓reduceIte, reduceCtorEq])
      | exact Bool.noConfusion h
      | refine sw_seq ?_
      | refine sw_block ?_
      | refine sw_skip ?_
      | refine sw_inBlock ?_
      | refine sw_go 0 kp103 fun K hK => ?_
      | refine fun (K : List Oper → LS → Prop) (hK : KOk S 0 _ _ _ K) => ?_
      | refine sw_goD kp103 (by kernel_rfl) fun K hK => ?_
      | ((first | refine runL_go ?_ | refine runQ_go ?_); simp (disch := (refine Om.mk ?_; omega)) only [go_sem, Nat.reduceAdd, Nat.reduceMul, Nat.reduceLT, Nat.reduceLeDiff, Nat.reduceEqDiff, Nat.reduceBEq, Nat.reduceSub, ↓reduceIte, reduceCtorEq])
      | (refine hK.nil ?_; clear hK K; simp only [go_sem, Nat.reduceAdd, Nat.reduceMul, Nat.reduceLT, Nat.reduceLeDiff, Nat.reduceEqDiff, Nat.reduceBEq, Nat.reduceSub, ↓reduceIte, reduceCtorEq])
      | (refine runG_fork rfl rfl rfl rfl rfl (fun h => ?_) (fun h => ?_) <;> (try simp (disch := (refine Om.mk ?_; omega)) only [go_sem, Nat.reduceAdd, Nat.reduceMul, Nat.reduceLT, Nat.reduceLeDiff, Nat.reduceEqDiff, Nat.reduceBEq, Nat.reduceSub, ↓reduceIte, reduceCtorEq] at h))
      | (refine runQG_fork rfl rfl rfl rfl rfl (fun h => ?_) (fun h => ?_) <;> (try simp (disch := (refine Om.mk ?_; omega)) only [go_sem, Nat.reduceAdd, Nat.reduceMul, Nat.reduceLT, Nat.reduceLeDiff, Nat.reduceEqDiff, Nat.reduceBEq, Nat.reduceSub, ↓reduceIte, reduceCtorEq] at h))
      | (refine hK.skip rfl (by simp only [dstOk, Nat.reduceLT]) ?_)
      | (refine sw_cond rfl (fun h => ?_) (fun h => ?_) <;> (try simp (disch := (refine Om.mk ?_; omega)) only [go_sem, Nat.reduceAdd, Nat.reduceMul, Nat.reduceLT, Nat.reduceLeDiff, Nat.reduceEqDiff, Nat.reduceBEq, Nat.reduceSub, ↓reduceIte, reduceCtorEq] at h))
      | (refine sw_exit rfl ?_)
      | (refine sw_loopEnd ?_)
      | ((first | refine sw_ret (ret0 ?_) | refine sw_ret ?_); simp (disch := (refine Om.mk ?_; omega)) only [go_sem, Nat.reduceAdd, Nat.reduceMul, Nat.reduceLT, Nat.reduceLeDiff, Nat.reduceEqDiff, Nat.reduceBEq, Nat.reduceSub, ↓reduceIte, reduceCtorEq, Try.results103])
      | (refine hK.fork rfl rfl rfl (fun h => ?_) (fun h => ?_) <;> (try simp (disch := (refine Om.mk ?_; omega)) only [go_sem, Nat.reduceAdd, Nat.reduceMul, Nat.reduceLT, Nat.reduceLeDiff, Nat.reduceEqDiff, Nat.reduceBEq, Nat.reduceSub, ↓reduceIte, reduceCtorEq] at h))
      | (with_reducible refine And.intro (by first | omega | (simp only [List.length_append, List.length_take, List.length_drop, List.length_cons, List.length_nil]; omega)) ?_)
      | ((with_reducible refine And.intro ?_ ?_); · first | (intro x hx; subst hx; rfl) | exact upR_mem fun _ _ => rfl | (intro x; refine And.intro ?_ ?_ <;> (intros; subst_vars; rfl)))
      | fail
    · rw [hg] at h ⊢
      rw [nextInv_yes hk hp2 h, hset]
      exact ⟨rfl, rfl⟩
    · rw [hg] at h
      refine ⟨k, (by (refine covers_mk0 rfl rfl ?_ ?_ ?_ ?_ <;> simp (disch := (refine Om.mk ?_; omega)) only [go_sem, Nat.reduceAdd, Nat.reduceMul, Nat.reduceLT, Nat.reduceLeDiff, Nat.reduceEqDiff, Nat.reduceBEq, Nat.reduceSub, ↓reduceIte, reduceCtorEq] <;> (try omega)); rw [hset, set_len_app _ _ _ (by simp; omega)]; unfold stepL; rw [show xs.length - k = (xs.length - (k + 1)) + 1 by omega, List.replicate_succ]), ⟨by omega, nextInv_no hk hp2 (by omega)⟩, by omega⟩
  · exact ⟨Nat.le_refl _, nextInv_start n xs⟩
theorem nextList_fc (tk : Tk) (xs : List Int) (n : Int) (hl : xs.length ≤ 100) (hx : ∀ x ∈ xs, 0 ≤ x ∧ x ≤ 1000) : FC S 103 [] [] [] [.sl tk (xs.map (.int .i64)), .int .i64 n] (.tup [.sl .any ((nextL n xs).1.map (.int .i64)), .bool (nextL n xs).2]) [] [] := by
  by_cases h : xs = []
  · subst h; exact nextList0_fc tk n
  · exact nextList1_fc tk xs n h hl hx
end Go.Proofs.Ytlpaodfkmafjjaa
