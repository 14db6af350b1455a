/-
  Ground terms by their lengths: the specification's side.
-/
import Derived.Test.YtldlochhiiogbaaG25p
import Derived.Test.YtldlochhiiogbaaA28
import Derived.Test.YtldlochhiiogbaaLgK10
namespace Go.Proofs.Ytldlochhiiogbaa
open Go Go.Lg
set_option linter.unusedSimpArgs false
set_option linter.unusedVariables false
set_option maxHeartbeats 4000000
attribute [local irreducible] SW runL runQ runG runQG FC Ret1 toF redoL
def LevD (l : Tms) : D := .sl .any (l.map IntsD)
attribute [go_sem] LevD
attribute [local irreducible] cut rowJ rowU oI oX
def kp23 : List (Nat × List Nat) := [(0, [0, 1, 2]), (1, [0, 1, 2, 13]), (2, [15]), (3, [6]), (4, [6]), (5, [0, 1, 2, 7]), (6, [0, 1, 2, 7, 8]), (7, [0, 1, 2, 7, 8, 22]), (9, [0, 1, 2, 7, 8, 30]), (10, [0, 1, 2, 7, 8, 9]), (11, [0, 1, 2, 7, 8, 9, 10]), (12, [0, 1, 2, 7, 8, 9, 10, 49]), (14, [0, 1, 2, 7, 8, 9, 10, 11]), (15, [0, 1, 2, 7, 8, 9, 10, 11, 60]), (17, [0, 1, 2, 7, 8, 9, 10, 11]), (16, [0, 1, 2, 7, 8, 9, 10, 11]), (13, [0, 1, 2, 7, 8, 9, 10]), (8, [0, 1, 2, 7, 8]), (18, [6])]
attribute [go_sem] kp23
theorem l25Rows_fc (Bs : List Tms) (hB : ∀ k, ∀ t ∈ lv Bs k, t.length = k) (hB2 : ∀ k, (lv Bs k).length ≤ 3000) : ∀ (a n : Nat) (A M : Int) (tk : Tk), A = a → M = n → a ≤ 3 → n < Bs.length → n ≤ 60 → FC S 23 [] [] [] [.sl tk (Bs.map LevD), .int .i64 A, .int .i64 M] (.sl .any ((cut (rowU Bs a n)).map IntsD)) [] [] := by
  intro a
  induction a with
  | zero =>
    intro n A M tk hA hM _ hn hn6
    skip
    refine FC.args (args' := [.sl .any (Bs.map LevD), .int .i64 A, .int .i64 M]) ?_ (by simp only [go_sem])
    refine fc_body Try.func23 rfl (by kernel_rfl) (by simp [Try.f23]) fun B => ?_
    simp only [Try.ntmps23, enumD, List.map_nil, List.map_cons, List.length_map, Nat.zero_add, Nat.reduceAdd]
    by_cases h0 : n = 0
    · subst hA; subst hM; subst h0
      rw [rowU_zero, cut_one]
      repeat' first
        | ((exfalso; omega))
        | exact Bool.noConfusion h
        | refine sw_seq ?_
        | refine sw_block ?_
        | refine sw_skip ?_
        | refine sw_inBlock ?_
        | refine sw_go 0 kp23 fun K hK => ?_
        | refine sw_goT 0 kp23 13 (id := 17) (by kernel_rfl) fun K hK => ?_
        | refine fun (K : List Oper → LS → Prop) (hK : KOk S 0 _ _ _ K) => ?_
        | refine sw_goD kp23 (by kernel_rfl) fun K hK => ?_
        | ((first | refine runL_go ?_ | refine runQ_go ?_); simp (disch := (refine Om.mk ?_; omega)) only [go_sem])
        | (refine hK.nil ?_; clear hK K; simp only [go_sem])
        | (refine runG_fork rfl rfl rfl rfl rfl (fun h => ?_) (fun h => ?_) <;> (try simp (disch := (refine Om.mk ?_; omega)) only [go_sem] at h))
        | (refine runQG_fork rfl rfl rfl rfl rfl (fun h => ?_) (fun h => ?_) <;> (try simp (disch := (refine Om.mk ?_; omega)) only [go_sem] at h))
        | (refine hK.skip rfl (by simp only [dstOk, Nat.reduceLT]) ?_)
        | (refine sw_cond rfl (fun h => ?_) (fun h => ?_) <;> (try simp (disch := (refine Om.mk ?_; omega)) only [go_sem] at h))
        | (refine sw_exit rfl ?_)
        | (refine sw_loopEnd ?_)
        | ((first | refine sw_ret (ret0 ?_) | refine sw_ret ?_); simp (disch := (refine Om.mk ?_; omega)) only [go_sem, Try.results23])
        | (refine hK.fork rfl rfl rfl (fun h => ?_) (fun h => ?_) <;> (try simp (disch := (refine Om.mk ?_; omega)) only [go_sem] at h))
        | (with_reducible refine And.intro (by first | omega | (simp only [List.length_append, List.length_take, List.length_drop, List.length_cons, List.length_nil, List.length_map]; omega)) ?_)
        | ((with_reducible refine And.intro ?_ ?_); · first | (intro x hx; subst hx; rfl) | exact upR_mem fun _ _ => rfl | exact mapR_mem fun _ _ => rfl | (intro x; refine And.intro ?_ ?_ <;> (intros; subst_vars; rfl)))
        | fail
      all_goals trace_state
    · subst hA; subst hM
      rw [rowU_zero' Bs h0, cut_nil]
      repeat' first
        | ((exfalso; omega))
        | exact Bool.noConfusion h
        | refine sw_seq ?_
        | refine sw_block ?_
        | refine sw_skip ?_
        | refine sw_inBlock ?_
        | refine sw_go 0 kp23 fun K hK => ?_
        | refine sw_goT 0 kp23 13 (id := 17) (by kernel_rfl) fun K hK => ?_
        | refine fun (K : List Oper → LS → Prop) (hK : KOk S 0 _ _ _ K) => ?_
        | refine sw_goD kp23 (by kernel_rfl) fun K hK => ?_
        | ((first | refine runL_go ?_ | refine runQ_go ?_); simp (disch := (refine Om.mk ?_; omega)) only [go_sem])
        | (refine hK.nil ?_; clear hK K; simp only [go_sem])
        | (refine runG_fork rfl rfl rfl rfl rfl (fun h => ?_) (fun h => ?_) <;> (try simp (disch := (refine Om.mk ?_; omega)) only [go_sem] at h))
        | (refine runQG_fork rfl rfl rfl rfl rfl (fun h => ?_) (fun h => ?_) <;> (try simp (disch := (refine Om.mk ?_; omega)) only [go_sem] at h))
        | (refine hK.skip rfl (by simp only [dstOk, Nat.reduceLT]) ?_)
        | (refine sw_cond rfl (fun h => ?_) (fun h => ?_) <;> (try simp (disch := (refine Om.mk ?_; omega)) only [go_sem] at h))
        | (refine sw_exit rfl ?_)
        | (refine sw_loopEnd ?_)
        | ((first | refine sw_ret (ret0 ?_) | refine sw_ret ?_); simp (disch := (refine Om.mk ?_; omega)) only [go_sem, Try.results23])
        | (refine hK.fork rfl rfl rfl (fun h => ?_) (fun h => ?_) <;> (try simp (disch := (refine Om.mk ?_; omega)) only [go_sem] at h))
        | (with_reducible refine And.intro (by first | omega | (simp only [List.length_append, List.length_take, List.length_drop, List.length_cons, List.length_nil, List.length_map]; omega)) ?_)
        | ((with_reducible refine And.intro ?_ ?_); · first | (intro x hx; subst hx; rfl) | exact upR_mem fun _ _ => rfl | exact mapR_mem fun _ _ => rfl | (intro x; refine And.intro ?_ ?_ <;> (intros; subst_vars; rfl)))
        | fail
      all_goals trace_state
  | succ a ih =>
    intro n A M tk hA hM ha hn hn6
    skip
    refine FC.args (args' := [.sl .any (Bs.map LevD), .int .i64 A, .int .i64 M]) ?_ (by simp only [go_sem])
    refine fc_body Try.func23 rfl (by kernel_rfl) (by simp [Try.f23]) fun B => ?_
    simp only [Try.ntmps23, enumD, List.map_nil, List.map_cons, List.length_map, Nat.zero_add, Nat.reduceAdd]
    subst hA; subst hM
    rw [rowU_s]
    repeat' first
      | ((exfalso; omega))
      | exact Bool.noConfusion h
      | refine sw_seq ?_
      | refine sw_block ?_
      | refine sw_skip ?_
      | refine sw_inBlock ?_
      | refine sw_go 0 kp23 fun K hK => ?_
      | refine sw_goT 0 kp23 13 (id := 17) (by kernel_rfl) fun K hK => ?_
      | refine fun (K : List Oper → LS → Prop) (hK : KOk S 0 _ _ _ K) => ?_
      | refine sw_goD kp23 (by kernel_rfl) fun K hK => ?_
      | ((first | refine runL_go ?_ | refine runQ_go ?_); simp (disch := (refine Om.mk ?_; omega)) only [go_sem])
      | (refine hK.nil ?_; clear hK K; simp only [go_sem])
      | (refine runG_fork rfl rfl rfl rfl rfl (fun h => ?_) (fun h => ?_) <;> (try simp (disch := (refine Om.mk ?_; omega)) only [go_sem] at h))
      | (refine runQG_fork rfl rfl rfl rfl rfl (fun h => ?_) (fun h => ?_) <;> (try simp (disch := (refine Om.mk ?_; omega)) only [go_sem] at h))
      | (refine hK.skip rfl (by simp only [dstOk, Nat.reduceLT]) ?_)
      | (refine sw_cond rfl (fun h => ?_) (fun h => ?_) <;> (try simp (disch := (refine Om.mk ?_; omega)) only [go_sem] at h))
      | (refine sw_exit rfl ?_)
      | (refine sw_loopEnd ?_)
      | ((first | refine sw_ret (ret0 ?_) | refine sw_ret ?_); simp (disch := (refine Om.mk ?_; omega)) only [go_sem, Try.results23])
      | (refine hK.fork rfl rfl rfl (fun h => ?_) (fun h => ?_) <;> (try simp (disch := (refine Om.mk ?_; omega)) only [go_sem] at h))
      | (with_reducible refine And.intro (by first | omega | (simp only [List.length_append, List.length_take, List.length_drop, List.length_cons, List.length_nil, List.length_map]; omega)) ?_)
      | ((with_reducible refine And.intro ?_ ?_); · first | (intro x hx; subst hx; rfl) | exact upR_mem fun _ _ => rfl | exact mapR_mem fun _ _ => rfl | (intro x; refine And.intro ?_ ?_ <;> (intros; subst_vars; rfl)))
      | fail
    refine sw_tok 7 79000 22 1 rfl (.inr rfl) rfl ?_
    simp only [go_sem]
    refine sw_loopT (ι := Nat) (fun j => [(8, .int .i64 (j + 1)), (7, .sl (.own 79000 22 1) ((cut (rowJ (rowU Bs a) Bs n j)).map IntsD))]) (fun _ => []) (fun _ => [79000]) (fun j => j ≤ n) (fun j => n - j) 0 (by (refine covers_mk0 rfl rfl ?_ ?_ ?_ ?_ <;> simp (disch := (refine Om.mk ?_; omega)) only [go_sem] <;> (try omega)); rw [rowJ_zero, cut_nil]; all_goals first | rfl | exact ⟨rfl, rfl⟩ | trace_state) (by omega) (fun j hj => ?_)
    simp only [go_sem]
    by_cases hjn : j < n
    · have hrj : ∀ i, i ≤ (Bs.getD (j + 1) default).length → (i = (Bs.getD (j + 1) default).length ∨ 201 ≤ (oI (rowJ (rowU Bs a) Bs n j) (Bs.getD (j + 1) default) (cut (rowU Bs a (n - (j + 1)))) i).length) → oI (rowJ (rowU Bs a) Bs n j) (Bs.getD (j + 1) default) (cut (rowU Bs a (n - (j + 1)))) i = cut (rowJ (rowU Bs a) Bs n (j + 1)) := fun i => row_end (R := rowU Bs a) (B := Bs) (n := n) (j := j) (i := i)
      have hbl : (Bs.getD (j + 1) default).length ≤ 3000 := hB2 (j + 1)
      by_cases hz : (Bs.getD (j + 1) default).length = 0
      · have e0 := hrj 0 (by omega) (.inl hz.symm)
        rw [oI_zero] at e0
        repeat' first
          | ((exfalso; omega))
          | exact Bool.noConfusion h
          | refine sw_seq ?_
          | refine sw_block ?_
          | refine sw_skip ?_
          | refine sw_inBlock ?_
          | refine sw_go 0 kp23 fun K hK => ?_
          | refine sw_goT 0 kp23 13 (id := 17) (by kernel_rfl) fun K hK => ?_
          | refine fun (K : List Oper → LS → Prop) (hK : KOk S 0 _ _ _ K) => ?_
          | refine sw_goD kp23 (by kernel_rfl) fun K hK => ?_
          | ((first | refine runL_go ?_ | refine runQ_go ?_); simp (disch := (refine Om.mk ?_; omega)) only [go_sem])
          | (refine hK.nil ?_; clear hK K; simp only [go_sem])
          | (refine runG_fork rfl rfl rfl rfl rfl (fun h => ?_) (fun h => ?_) <;> (try simp (disch := (refine Om.mk ?_; omega)) only [go_sem] at h))
          | (refine runQG_fork rfl rfl rfl rfl rfl (fun h => ?_) (fun h => ?_) <;> (try simp (disch := (refine Om.mk ?_; omega)) only [go_sem] at h))
          | (refine hK.skip rfl (by simp only [dstOk, Nat.reduceLT]) ?_)
          | (refine sw_cond rfl (fun h => ?_) (fun h => ?_) <;> (try simp (disch := (refine Om.mk ?_; omega)) only [go_sem] at h))
          | (refine sw_exit rfl ?_)
          | (refine sw_loopEnd ?_)
          | ((first | refine sw_ret (ret0 ?_) | refine sw_ret ?_); simp (disch := (refine Om.mk ?_; omega)) only [go_sem, Try.results23])
          | (refine hK.fork rfl rfl rfl (fun h => ?_) (fun h => ?_) <;> (try simp (disch := (refine Om.mk ?_; omega)) only [go_sem] at h))
          | (with_reducible refine And.intro (by first | omega | (simp only [List.length_append, List.length_take, List.length_drop, List.length_cons, List.length_nil, List.length_map]; omega)) ?_)
          | ((with_reducible refine And.intro ?_ ?_); · first | (intro x hx; subst hx; rfl) | exact upR_mem fun _ _ => rfl | exact mapR_mem fun _ _ => rfl | (intro x; refine And.intro ?_ ?_ <;> (intros; subst_vars; rfl)))
          | fail
        exact ⟨j + 1, (by (refine covers_mk0 rfl rfl ?_ ?_ ?_ ?_ <;> simp (disch := (refine Om.mk ?_; omega)) only [go_sem] <;> (try omega)); rw [← e0]; all_goals first | exact ⟨rfl, by omega⟩ | trace_state), by omega, by omega⟩
      · have cR := fun (A M : Int) hA hM => ih (n - (j + 1)) A M .any hA hM (by omega) (by omega) (by omega)
        have hrl : ∀ x ∈ cut (rowU Bs a (n - (j + 1))), x.length = n - (j + 1) := fun x hx => rowU_len Bs hB a _ x (mem_cut hx)
        have hcl := cut_len (rowU Bs a (n - (j + 1)))
        generalize cut (rowU Bs a (n - (j + 1))) = rest at cR hrj hrl hcl
        repeat' first
          | ((exfalso; omega))
          | exact Bool.noConfusion h
          | refine sw_seq ?_
          | refine sw_block ?_
          | refine sw_skip ?_
          | refine sw_inBlock ?_
          | refine sw_go 0 kp23 fun K hK => ?_
          | refine sw_goT 0 kp23 13 (id := 17) (by kernel_rfl) fun K hK => ?_
          | refine fun (K : List Oper → LS → Prop) (hK : KOk S 0 _ _ _ K) => ?_
          | refine sw_goD kp23 (by kernel_rfl) fun K hK => ?_
          | ((first | refine runL_go ?_ | refine runQ_go ?_); simp (disch := (refine Om.mk ?_; omega)) only [go_sem])
          | (refine hK.nil ?_; clear hK K; simp only [go_sem])
          | (refine runG_fork rfl rfl rfl rfl rfl (fun h => ?_) (fun h => ?_) <;> (try simp (disch := (refine Om.mk ?_; omega)) only [go_sem] at h))
          | (refine runQG_fork rfl rfl rfl rfl rfl (fun h => ?_) (fun h => ?_) <;> (try simp (disch := (refine Om.mk ?_; omega)) only [go_sem] at h))
          | (refine hK.skip rfl (by simp only [dstOk, Nat.reduceLT]) ?_)
          | (refine sw_cond rfl (fun h => ?_) (fun h => ?_) <;> (try simp (disch := (refine Om.mk ?_; omega)) only [go_sem] at h))
          | (refine sw_exit rfl ?_)
          | (refine sw_loopEnd ?_)
          | ((first | refine sw_ret (ret0 ?_) | refine sw_ret ?_); simp (disch := (refine Om.mk ?_; omega)) only [go_sem, Try.results23])
          | refine hK.call rfl rfl rfl (cR _ _ (by omega) (by omega)) ⟨(by intro p hp; cases hp), rfl, rfl, (by simp only [dstOk, Nat.reduceLT])⟩ ?_
          | (refine hK.fork rfl rfl rfl (fun h => ?_) (fun h => ?_) <;> (try simp (disch := (refine Om.mk ?_; omega)) only [go_sem] at h))
          | (with_reducible refine And.intro (by first | omega | (simp only [List.length_append, List.length_take, List.length_drop, List.length_cons, List.length_nil, List.length_map]; omega)) ?_)
          | ((with_reducible refine And.intro ?_ ?_); · first | (intro x hx; subst hx; rfl) | exact upR_mem fun _ _ => rfl | exact mapR_mem fun _ _ => rfl | (intro x; refine And.intro ?_ ?_ <;> (intros; subst_vars; rfl)))
          | fail
        have hP : cut (rowJ (rowU Bs a) Bs n j) = oI (rowJ (rowU Bs a) Bs n j) (Bs.getD (j + 1) default) rest 0 := (oI_zero _ _ _).symm
        generalize rowJ (rowU Bs a) Bs n j = P at hrj hP
        rw [hP]
        refine sw_loopT (ι := Nat) (fun i => [(10, .int .i64 i), (7, .sl (.own 79000 22 1) ((oI P (Bs.getD (j + 1) default) rest i).map IntsD))]) (fun _ => []) (fun _ => [79000]) (fun i => i ≤ (Bs.getD (j + 1) default).length) (fun i => (Bs.getD (j + 1) default).length - i) 0 (by (refine covers_mk0 rfl rfl ?_ ?_ ?_ ?_ <;> simp (disch := (refine Om.mk ?_; omega)) only [go_sem] <;> (try omega)); all_goals first | rfl | exact ⟨rfl, rfl⟩ | trace_state) (by omega) (fun i hi => ?_)
        simp only [go_sem]
        have hIl : (oI P (Bs.getD (j + 1) default) rest i).length ≤ 201 := by rw [oI_len]; omega
        repeat' first
          | ((exfalso; omega))
          | exact Bool.noConfusion h
          | refine sw_seq ?_
          | refine sw_block ?_
          | refine sw_skip ?_
          | refine sw_inBlock ?_
          | refine sw_go 0 kp23 fun K hK => ?_
          | refine sw_goT 0 kp23 13 (id := 17) (by kernel_rfl) fun K hK => ?_
          | refine fun (K : List Oper → LS → Prop) (hK : KOk S 0 _ _ _ K) => ?_
          | refine sw_goD kp23 (by kernel_rfl) fun K hK => ?_
          | ((first | refine runL_go ?_ | refine runQ_go ?_); simp (disch := (refine Om.mk ?_; omega)) only [go_sem])
          | (refine hK.nil ?_; clear hK K; simp only [go_sem])
          | (refine runG_fork rfl rfl rfl rfl rfl (fun h => ?_) (fun h => ?_) <;> (try simp (disch := (refine Om.mk ?_; omega)) only [go_sem] at h))
          | (refine runQG_fork rfl rfl rfl rfl rfl (fun h => ?_) (fun h => ?_) <;> (try simp (disch := (refine Om.mk ?_; omega)) only [go_sem] at h))
          | (refine hK.skip rfl (by simp only [dstOk, Nat.reduceLT]) ?_)
          | (refine sw_cond rfl (fun h => ?_) (fun h => ?_) <;> (try simp (disch := (refine Om.mk ?_; omega)) only [go_sem] at h))
          | (refine sw_exit rfl ?_)
          | (refine sw_loopEnd ?_)
          | ((first | refine sw_ret (ret0 ?_) | refine sw_ret ?_); simp (disch := (refine Om.mk ?_; omega)) only [go_sem, Try.results23])
          | (refine hK.fork rfl rfl rfl (fun h => ?_) (fun h => ?_) <;> (try simp (disch := (refine Om.mk ?_; omega)) only [go_sem] at h))
          | (with_reducible refine And.intro (by first | omega | (simp only [List.length_append, List.length_take, List.length_drop, List.length_cons, List.length_nil, List.length_map]; omega)) ?_)
          | ((with_reducible refine And.intro ?_ ?_); · first | (intro x hx; subst hx; rfl) | exact upR_mem fun _ _ => rfl | exact mapR_mem fun _ _ => rfl | (intro x; refine And.intro ?_ ?_ <;> (intros; subst_vars; rfl)))
          | fail
        · have hti := hB (j + 1) _ (getD_memG (xs := Bs.getD (j + 1) default) (i := i) (by omega))
          rw [← oX_zero P (Bs.getD (j + 1) default) rest i]
          refine sw_loopT (ι := Nat) (fun x => [(11, .int .i64 x), (7, .sl (.own 79000 22 1) ((oX P (Bs.getD (j + 1) default) rest i x).map IntsD))]) (fun _ => []) (fun _ => [79000]) (fun x => x ≤ rest.length) (fun x => rest.length - x) 0 (by (refine covers_mk0 rfl rfl ?_ ?_ ?_ ?_ <;> simp (disch := (refine Om.mk ?_; omega)) only [go_sem] <;> (try omega)); all_goals first | rfl | exact ⟨rfl, rfl⟩ | trace_state) (by omega) (fun x hx => ?_)
          simp only [go_sem]
          have hXl : (oX P (Bs.getD (j + 1) default) rest i x).length ≤ 201 := by rw [oX_len]; omega
          have hrx : x < rest.length → (rest.getD x default).length = n - (j + 1) := fun h => hrl _ (getD_memG h)
          have hst := fun h1 h2 => oX_step (P := P) (ts := Bs.getD (j + 1) default) (rest := rest) (i := i) (x := x) h1 h2
          have hend := oX_end (P := P) (ts := Bs.getD (j + 1) default) (rest := rest) (i := i) (x := x)
          repeat' first
            | ((refine sw_any (id := 17) kp23 [(true, []), (true, []), (true, []), (true, [1, 2]), (false, [3]), (true, []), (true, [4, 5]), (false, [6]), (false, [7]), (true, []), (true, []), (true, [9, 10]), (false, [11]), (false, [8, 12, 8]), (false, [13]), (false, [0, 14, 13]), (false, [15, 15, 0, 1, 2, 3, 4, 5, 6, 7, 8, 9, 10, 11, 12, 13, 14, 15])] ⟨80, [(0, .sl .any (Bs.map LevD)), (1, .int .i64 ((a + 1 : Nat) : Int)), (2, .int .i64 n), (7, .sl (.own 79000 22 1) ((oX P (Bs.getD (j + 1) default) rest i x ++ [List.getD (Bs.getD (j + 1) default) i default ++ rest.getD x default]).map IntsD)), (8, .int .i64 (j + 1)), (9, .sl .any (rest.map IntsD)), (10, .int .i64 i), (11, .int .i64 x)], [], [], [79000], []⟩ (by kernel_rfl) ?_ ?_; simp only [List.length_cons, List.length_nil, Nat.reduceAdd]))
            | ((refine anyB_unf ?_; simp only [stepF_n, stepF_c, goR_n, goR_c, exR_n, exR_c, memB_n, memB_c, subB_n, subB_c, moveY_m, moveY_f, moveY_i, cond_t, cond_f, true_and, and_true, Bool.not_false, Bool.not_true, Bool.and_true, Bool.and_false, Bool.true_and, Bool.false_and, Bool.or_false, Bool.false_or, Bool.true_or, Bool.or_true, Nat.reduceBEq, Nat.reduceAdd]))
            | ((refine anyB_move (by simp only [Nat.reduceLT]) rfl (by simp only [go_sem]; exact rfl) ?_))
            | ((refine anyB_fa (by simp only [Nat.reduceLT]) rfl rfl rfl rfl (by decide) (by simp only [go_sem]; exact rfl) ?_))
            | ((refine anyB_ia (by simp only [Nat.reduceLT]) rfl rfl rfl rfl (by simp (disch := (refine Om.mk ?_; omega)) only [go_sem]; omega) (by first | (simp (disch := (refine Om.mk ?_; omega)) only [go_sem]; done) | (simp (disch := (refine Om.mk ?_; omega)) only [go_sem]; rfl)) (by simp (disch := (refine Om.mk ?_; omega)) only [go_sem]; exact rfl) ?_))
            | ((refine hK.nil (anyB_id ?_); clear hK K))
            | ((refine lops_and ?_ ?_))
            | ((refine lops_go 0 ?_; refine fun (K : List Oper → LS → Prop) (hK : KOk S 0 _ _ _ K) => ?_; simp (disch := (refine Om.mk ?_; omega)) only [go_sem]))
            | ((refine anyB_end ?_; simp (disch := (refine Om.mk ?_; omega)) only [go_sem]; (refine covers_mk0 rfl rfl ?_ ?_ ?_ ?_ <;> simp (disch := (refine Om.mk ?_; omega)) only [go_sem] <;> (try omega)); done))
            | ((refine anyB_end ?_; simp (disch := (refine Om.mk ?_; omega)) only [go_sem]; (refine covers_mk0 rfl rfl ?_ ?_ ?_ ?_ <;> simp (disch := (refine Om.mk ?_; omega)) only [go_sem] <;> (try omega)); all_goals (simp [IntsD]; done)))
            | ((with_reducible refine And.intro (by simp; done) (And.intro (by omega) (And.intro (by omega) ?_))))
            | exact Bool.noConfusion h
            | refine sw_seq ?_
            | refine sw_block ?_
            | refine sw_skip ?_
            | refine sw_inBlock ?_
            | refine sw_go 0 kp23 fun K hK => ?_
            | refine fun (K : List Oper → LS → Prop) (hK : KOk S 0 _ _ _ K) => ?_
            | refine sw_goD kp23 (by kernel_rfl) fun K hK => ?_
            | ((first | refine runL_go ?_ | refine runQ_go ?_); simp (disch := (refine Om.mk ?_; omega)) only [go_sem])
            | (refine hK.nil ?_; clear hK K; simp only [go_sem])
            | (refine runG_fork rfl rfl rfl rfl rfl (fun h => ?_) (fun h => ?_) <;> (try simp (disch := (refine Om.mk ?_; omega)) only [go_sem] at h))
            | (refine runQG_fork rfl rfl rfl rfl rfl (fun h => ?_) (fun h => ?_) <;> (try simp (disch := (refine Om.mk ?_; omega)) only [go_sem] at h))
            | (refine hK.skip rfl (by simp only [dstOk, Nat.reduceLT]) ?_)
            | (refine sw_cond rfl (fun h => ?_) (fun h => ?_) <;> (try simp (disch := (refine Om.mk ?_; omega)) only [go_sem] at h))
            | (refine sw_exit rfl ?_)
            | (refine sw_loopEnd ?_)
            | ((first | refine sw_ret (ret0 ?_) | refine sw_ret ?_); simp (disch := (refine Om.mk ?_; omega)) only [go_sem, Try.results23])
            | (refine hK.callB rfl rfl rfl (l1Copy_fc .any (List.getD (Bs.getD (j + 1) default) i default) (by omega)) ⟨⟨by simp only [Nat.reduceLT], (by first | (simp; all_goals fail) | (simp [LS.getBox, Lg.look]; all_goals fail)), by (simp [Lg.look]; all_goals fail), by (simp; all_goals fail), by (simp; all_goals fail)⟩, ⟨by (simp [D.ids, D.idsL]; all_goals fail), by (simp [D.ids, D.idsL]; all_goals fail), by (simp [D.tks, D.tksL]; all_goals fail), by (simp [D.tks, D.tksL]; all_goals fail), by (simp; all_goals fail)⟩, rfl⟩ ?_; simp (disch := (refine Om.mk ?_; omega)) only [go_sem])
            | (refine hK.fork rfl rfl rfl (fun h => ?_) (fun h => ?_) <;> (try simp (disch := (refine Om.mk ?_; omega)) only [go_sem] at h))
            | (with_reducible refine And.intro (by first | omega | (simp only [List.length_append, List.length_take, List.length_drop, List.length_cons, List.length_nil, List.length_map]; omega)) ?_)
            | ((with_reducible refine And.intro ?_ ?_); · first | (intro x hx; subst hx; rfl) | exact upR_mem fun _ _ => rfl | exact mapR_mem fun _ _ => rfl | (intro x; refine And.intro ?_ ?_ <;> (intros; subst_vars; rfl)))
            | fail
          all_goals first | exact ⟨x + 1, (by rw [hst (by omega) (by omega)]; (refine covers_mk0 rfl rfl ?_ ?_ ?_ ?_ <;> simp (disch := (refine Om.mk ?_; omega)) only [go_sem] <;> (try omega)); all_goals first | (simp; done) | trace_state), by omega, by omega⟩ | exact ⟨i + 1, (by rw [hend (by omega) (by omega) (by omega)]; (refine covers_mk0 rfl rfl ?_ ?_ ?_ ?_ <;> simp (disch := (refine Om.mk ?_; omega)) only [go_sem] <;> (try omega))), by omega, by omega⟩ | trace_state
        all_goals exact ⟨j + 1, (by rw [hrj i (by omega) (by omega)]; (refine covers_mk0 rfl rfl ?_ ?_ ?_ ?_ <;> simp (disch := (refine Om.mk ?_; omega)) only [go_sem] <;> (try omega))), by omega, by omega⟩
    · repeat' first
        | ((exfalso; omega))
        | exact Bool.noConfusion h
        | refine sw_seq ?_
        | refine sw_block ?_
        | refine sw_skip ?_
        | refine sw_inBlock ?_
        | refine sw_go 0 kp23 fun K hK => ?_
        | refine sw_goT 0 kp23 13 (id := 17) (by kernel_rfl) fun K hK => ?_
        | refine fun (K : List Oper → LS → Prop) (hK : KOk S 0 _ _ _ K) => ?_
        | refine sw_goD kp23 (by kernel_rfl) fun K hK => ?_
        | ((first | refine runL_go ?_ | refine runQ_go ?_); simp (disch := (refine Om.mk ?_; omega)) only [go_sem])
        | (refine hK.nil ?_; clear hK K; simp only [go_sem])
        | (refine runG_fork rfl rfl rfl rfl rfl (fun h => ?_) (fun h => ?_) <;> (try simp (disch := (refine Om.mk ?_; omega)) only [go_sem] at h))
        | (refine runQG_fork rfl rfl rfl rfl rfl (fun h => ?_) (fun h => ?_) <;> (try simp (disch := (refine Om.mk ?_; omega)) only [go_sem] at h))
        | (refine hK.skip rfl (by simp only [dstOk, Nat.reduceLT]) ?_)
        | (refine sw_cond rfl (fun h => ?_) (fun h => ?_) <;> (try simp (disch := (refine Om.mk ?_; omega)) only [go_sem] at h))
        | (refine sw_exit rfl ?_)
        | (refine sw_loopEnd ?_)
        | ((first | refine sw_ret (ret0 ?_) | refine sw_ret ?_); simp (disch := (refine Om.mk ?_; omega)) only [go_sem, Try.results23])
        | (refine hK.fork rfl rfl rfl (fun h => ?_) (fun h => ?_) <;> (try simp (disch := (refine Om.mk ?_; omega)) only [go_sem] at h))
        | (with_reducible refine And.intro (by first | omega | (simp only [List.length_append, List.length_take, List.length_drop, List.length_cons, List.length_nil, List.length_map]; omega)) ?_)
        | ((with_reducible refine And.intro ?_ ?_); · first | (intro x hx; subst hx; rfl) | exact upR_mem fun _ _ => rfl | exact mapR_mem fun _ _ => rfl | (intro x; refine And.intro ?_ ?_ <;> (intros; subst_vars; rfl)))
        | fail
      rw [show j = n by omega]
end Go.Proofs.Ytldlochhiiogbaa
