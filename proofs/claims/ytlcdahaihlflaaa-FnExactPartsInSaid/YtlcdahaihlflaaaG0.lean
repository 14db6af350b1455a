/-
  Ty, HFnExactPartsIn, one behind the other.
-/
import Derived.Test.YtlcdahaihlflaaaSet
import Derived.Test.YtlcdahaihlflaaaLgK4
import Derived.Test.YtlcdahaihlflaaaLgK5
section
namespace Go.Proofs.Ytlcdahaihlflaaa
open Go Go.Lg
def IntsD (x : List Int) : D := .sl .any (x.map (.int .i64))
attribute [go_sem] IntsD
theorem ints_set (ys : List (List Int)) (i : Nat) (u : List Int) : (ys.map IntsD).set i (.sl .any (u.map (.int .i64))) = (ys.set i u).map IntsD := by rw [List.map_set]; rfl
attribute [go_sem] ints_set
def cntInt64S (xs : List Int) : Nat := xs.length
def SigD (x : List Int) : D := .agg [.sl .any (x.map (.int .i64))]
attribute [go_sem] SigD
def cntSig (x : List Int) : Nat := cntInt64S x
def cntInt64SS (xs : List (List Int)) : Nat := xs.length + (xs.map cntInt64S).sum
def cntSubst (x : List (List Int)) : Nat := cntInt64SS x
structure RuleT where
 l : List Int
 r : List Int
 deriving Inhabited
def RuleD (x : RuleT) : D := .agg [.sl .any (x.l.map (.int .i64)), .sl .any (x.r.map (.int .i64))]
attribute [go_sem] RuleD
def cntRule (x : RuleT) : Nat := cntInt64S x.l + cntInt64S x.r
def cntRuleS (xs : List RuleT) : Nat := xs.length + (xs.map cntRule).sum
structure SystemT where
 sig : List Int
 rules : List RuleT
 deriving Inhabited
def SystemD (x : SystemT) : D := .agg [.sl .any (x.sig.map (.int .i64)), .sl .any (x.rules.map RuleD)]
attribute [go_sem] SystemD
def cntSystem (x : SystemT) : Nat := cntSig x.sig + cntRuleS x.rules
structure StepT where
 at_ : Int
 rule : Int
 to : List Int
 deriving Inhabited
def cntStep (x : StepT) : Nat := cntInt64S x.to
def cntStepS (xs : List StepT) : Nat := xs.length + (xs.map cntStep).sum
structure WalkT where
 frm : List Int
 steps : List StepT
 deriving Inhabited
def cntWalk (x : WalkT) : Nat := cntInt64S x.frm + cntStepS x.steps
structure DepPairT where
 l : List Int
 r : List Int
 rule : Int
 at_ : Int
 deriving Inhabited
def DepPairD (x : DepPairT) : D := .agg [.sl .any (x.l.map (.int .i64)), .sl .any (x.r.map (.int .i64)), .int .i64 x.rule, .int .i64 x.at_]
attribute [go_sem] DepPairD
theorem szd_rng {b : Int} {n : Nat} (h : -1 ≤ b ∧ b ≤ 1048576) : -1 ≤ szd b n ∧ szd b n ≤ 1048576 := by unfold szd; split <;> omega
end Go.Proofs.Ytlcdahaihlflaaa
end
section
namespace Go.Proofs.Ytlcdahaihlflaaa
open Go Go.Lg
set_option linter.unusedSimpArgs false
set_option maxHeartbeats 4000000
attribute [local irreducible] SW runL runQ runG runQG FC Ret Ret1
def kp36 : List (Nat × List Nat) := [(0, [0, 1]), (1, [0, 1, 10]), (2, [4]), (3, [0, 1, 5]), (4, [0, 1, 5, 14]), (6, [0, 1, 5, 25]), (7, [4]), (5, [0, 1, 5]), (8, [4])]
attribute [go_sem] kp36
theorem eqInt64S_fc (tk tk' : Tk) (xs ys : List Int) : FC S 36 [] [] [] [.sl tk (xs.map (.int .i64)), .sl tk' (ys.map (.int .i64))] (.bool (tst (xs = ys))) [] [] := by
 refine fc_body Try.func36 rfl (by kernel_rfl) (by simp [Try.f36]) fun B => ?_
 simp only [Try.ntmps36, enumD, lst0, Nat.reduceAdd]
 refine sw_bnd 0 rfl fun hb0 => ?_
 simp only [D.bnd, List.length_map] at hb0
 refine sw_bnd 1 rfl fun hb1 => ?_
 simp only [D.bnd, List.length_map] at hb1
 repeat' first | refine sw_seq ?_ | refine sw_block ?_ | refine sw_inBlock ?_ | refine sw_skip ?_ | refine sw_go 0 kp36 fun K hK => ?_ | refine fun (K : KT) (hK : KOk S 0 _ _ _ K) => ?_ | refine sw_goD kp36 (by kernel_rfl) fun K hK => ?_ | ((first | refine runL_go ?_ | refine runQ_go ?_ | refine sw_ret (ret0 ?_) | refine sw_ret ?_); simp (disch := (refine Om.mk ?_; omega)) only [go_sem, Try.results36]) | (refine hK.nil ?_; clear hK K; simp only [go_sem]) | ((first | refine sw_cond rfl ?_ ?_) <;> intro h <;> try simp (disch := (refine Om.mk ?_; omega)) only [go_sem] at h) | refine sw_exit rfl ?_ | refine sw_loopEnd ?_ | (with_reducible refine And.intro (by first | omega | (simp only [lens]; omega)) ?_) | fail
 ·intro e; exact h (by rw [e])
 refine sw_loopU (ι := Nat) (fun i => [(5, .int .i64 i)]) (fun _ => []) (fun i => i ≤ xs.length ∧ (∀ j < i, xs.getD j default = ys.getD j default)) (fun i => xs.length - i) 0 (by (refine covers_mk0 rfl rfl ?_ ?_ ?_ ?_ <;> simp (disch := (refine Om.mk ?_; omega)) only [go_sem] <;> (try omega))) ⟨by omega, ?_⟩ (fun i ⟨hi, hj⟩ => ?_)
 rotate_left
 simp only [go_sem]
 repeat' first | refine sw_seq ?_ | refine sw_block ?_ | refine sw_inBlock ?_ | refine sw_skip ?_ | refine sw_go 0 kp36 fun K hK => ?_ | refine fun (K : KT) (hK : KOk S 0 _ _ _ K) => ?_ | refine sw_goD kp36 (by kernel_rfl) fun K hK => ?_ | ((first | refine runL_go ?_ | refine runQ_go ?_ | refine sw_ret (ret0 ?_) | refine sw_ret ?_); simp (disch := (refine Om.mk ?_; omega)) only [go_sem, Try.results36]) | (refine hK.nil ?_; clear hK K; simp only [go_sem]) | ((first | refine sw_cond rfl ?_ ?_) <;> intro h <;> try simp (disch := (refine Om.mk ?_; omega)) only [go_sem] at h) | refine sw_exit rfl ?_ | refine sw_loopEnd ?_ | (with_reducible refine And.intro (by first | omega | (simp only [lens]; omega)) ?_) | fail
 ·intro e; exact h (by rw [e])
 ·exact ⟨i + 1, by (refine covers_mk0 rfl rfl ?_ ?_ ?_ ?_ <;> simp (disch := (refine Om.mk ?_; omega)) only [go_sem] <;> (try omega)), ⟨by omega, upto_succ hj (by assumption)⟩, by omega⟩
 ·exact ext_getD (by assumption) fun j hj' => hj j (by omega)
 ·intro j hj'; omega
def kp10 : List (Nat × List Nat) := [(0, [0, 1]), (1, [0, 1, 10]), (2, [4]), (3, [0, 1, 5]), (4, [0, 1, 5, 14]), (6, [0, 1, 5, 26]), (7, [4]), (5, [0, 1, 5]), (8, [4])]
attribute [go_sem] kp10
theorem eqInt64SS_fc (tk tk' : Tk) (xs ys : List (List Int)) : FC S 10 [] [] [] [.sl tk (xs.map IntsD), .sl tk' (ys.map IntsD)] (.bool (tst (xs = ys))) [] [] := by
 refine fc_body Try.func10 rfl (by kernel_rfl) (by simp [Try.f10]) fun B => ?_
 simp only [Try.ntmps10, enumD, lst0, Nat.reduceAdd]
 refine sw_bnd 0 rfl fun hb0 => ?_
 simp only [D.bnd, List.length_map] at hb0
 refine sw_bnd 1 rfl fun hb1 => ?_
 simp only [D.bnd, List.length_map] at hb1
 repeat' first | refine sw_seq ?_ | refine sw_block ?_ | refine sw_inBlock ?_ | refine sw_skip ?_ | refine sw_go 0 kp10 fun K hK => ?_ | refine fun (K : KT) (hK : KOk S 0 _ _ _ K) => ?_ | refine sw_goD kp10 (by kernel_rfl) fun K hK => ?_ | ((first | refine runL_go ?_ | refine runQ_go ?_ | refine sw_ret (ret0 ?_) | refine sw_ret ?_); simp (disch := (refine Om.mk ?_; omega)) only [go_sem, Try.results10]) | (refine hK.nil ?_; clear hK K; simp only [go_sem]) | ((first | refine sw_cond rfl ?_ ?_) <;> intro h <;> try simp (disch := (refine Om.mk ?_; omega)) only [go_sem] at h) | refine sw_exit rfl ?_ | refine sw_loopEnd ?_ | (with_reducible refine And.intro (by first | omega | (simp only [lens]; omega)) ?_) | fail
 ·intro e; exact h (by rw [e])
 refine sw_loopU (ι := Nat) (fun i => [(5, .int .i64 i)]) (fun _ => []) (fun i => i ≤ xs.length ∧ (∀ j < i, xs.getD j default = ys.getD j default)) (fun i => xs.length - i) 0 (by (refine covers_mk0 rfl rfl ?_ ?_ ?_ ?_ <;> simp (disch := (refine Om.mk ?_; omega)) only [go_sem] <;> (try omega))) ⟨by omega, ?_⟩ (fun i ⟨hi, hj⟩ => ?_)
 rotate_left
 simp only [go_sem]
 repeat' first | refine sw_seq ?_ | refine sw_block ?_ | refine sw_inBlock ?_ | refine sw_skip ?_ | refine sw_go 0 kp10 fun K hK => ?_ | refine fun (K : KT) (hK : KOk S 0 _ _ _ K) => ?_ | refine sw_goD kp10 (by kernel_rfl) fun K hK => ?_ | ((first | refine runL_go ?_ | refine runQ_go ?_ | refine sw_ret (ret0 ?_) | refine sw_ret ?_); simp (disch := (refine Om.mk ?_; omega)) only [go_sem, Try.results10]) | (refine hK.nil ?_; clear hK K; simp only [go_sem]) | ((first | refine sw_cond rfl ?_ ?_) <;> intro h <;> try simp (disch := (refine Om.mk ?_; omega)) only [go_sem] at h) | refine sw_exit rfl ?_ | refine sw_loopEnd ?_ | refine hK.c0 rfl rfl rfl (eqInt64S_fc _ _ _ _) rfl rfl rfl ?_ | (with_reducible refine And.intro (by first | omega | (simp only [lens]; omega)) ?_) | fail
 ·intro e; exact h (by rw [e])
 ·exact ⟨i + 1, by (refine covers_mk0 rfl rfl ?_ ?_ ?_ ?_ <;> simp (disch := (refine Om.mk ?_; omega)) only [go_sem] <;> (try omega)), ⟨by omega, upto_succ hj (by assumption)⟩, by omega⟩
 ·exact ext_getD (by assumption) fun j hj' => hj j (by omega)
 ·intro j hj'; omega
def kp119 : List (Nat × List Nat) := [(0, [2, 3]), (1, [2, 3, 10]), (2, [4]), (3, [16]), (4, [4]), (5, [4])]
attribute [go_sem] kp119
theorem eqRule_fc (x y : RuleT) : FC S 119 [] [] [] [RuleD x, RuleD y] (.bool (tst (x = y))) [] [] := by
 refine fc_body Try.func119 rfl (by kernel_rfl) (by simp [Try.f119]) fun B => ?_
 simp only [Try.ntmps119, enumD, lst0, Nat.reduceAdd]
 repeat' first | refine sw_seq ?_ | refine sw_skip ?_ | refine sw_go 0 kp119 fun K hK => ?_ | refine fun (K : KT) (hK : KOk S 0 _ _ _ K) => ?_ | ((first | refine runL_go ?_ | refine sw_ret (ret0 ?_) | refine sw_ret ?_); simp (disch := (refine Om.mk ?_; omega)) only [go_sem, Try.results119]) | (refine hK.nil ?_; clear hK K; simp only [go_sem]) | ((first | refine sw_cond rfl ?_ ?_) <;> intro h <;> try simp (disch := (refine Om.mk ?_; omega)) only [go_sem] at h) | refine sw_loopEnd ?_ | refine hK.c0 rfl rfl rfl (eqInt64S_fc _ _ _ _) rfl rfl rfl ?_ | (with_reducible refine And.intro (by first | omega | (simp only [lens]; omega)) ?_) | fail
 all_goals first | assumption | (intro e; subst e; contradiction) | (cases x; cases y; simp_all)
def kp24 : List (Nat × List Nat) := [(0, [2, 3]), (1, [10]), (2, [4]), (3, [4])]
attribute [go_sem] kp24
theorem eqSig_fc (x y : List Int) : FC S 24 [] [] [] [SigD x, SigD y] (.bool (tst (x = y))) [] [] := by
 refine fc_body Try.func24 rfl (by kernel_rfl) (by simp [Try.f24]) fun B => ?_
 simp only [Try.ntmps24, enumD, lst0, Nat.reduceAdd]
 repeat' first | refine sw_seq ?_ | refine sw_skip ?_ | refine sw_go 0 kp24 fun K hK => ?_ | refine fun (K : KT) (hK : KOk S 0 _ _ _ K) => ?_ | ((first | refine runL_go ?_ | refine sw_ret (ret0 ?_) | refine sw_ret ?_); simp (disch := (refine Om.mk ?_; omega)) only [go_sem, Try.results24]) | (refine hK.nil ?_; clear hK K; simp only [go_sem]) | ((first | refine sw_cond rfl ?_ ?_) <;> intro h <;> try simp (disch := (refine Om.mk ?_; omega)) only [go_sem] at h) | refine sw_loopEnd ?_ | refine hK.c0 rfl rfl rfl (eqInt64S_fc _ _ _ _) rfl rfl rfl ?_ | (with_reducible refine And.intro (by first | omega | (simp only [lens]; omega)) ?_) | fail
 all_goals first | assumption | (intro e; subst e; contradiction) | (cases x; cases y; simp_all)
def kp74 : List (Nat × List Nat) := [(0, [0, 1]), (1, [0, 1, 10]), (2, [4]), (3, [0, 1, 5]), (4, [0, 1, 5, 14]), (6, [0, 1, 5, 26]), (7, [4]), (5, [0, 1, 5]), (8, [4])]
attribute [go_sem] kp74
theorem eqRuleS_fc (tk tk' : Tk) (xs ys : List RuleT) : FC S 74 [] [] [] [.sl tk (xs.map RuleD), .sl tk' (ys.map RuleD)] (.bool (tst (xs = ys))) [] [] := by
 refine fc_body Try.func74 rfl (by kernel_rfl) (by simp [Try.f74]) fun B => ?_
 simp only [Try.ntmps74, enumD, lst0, Nat.reduceAdd]
 refine sw_bnd 0 rfl fun hb0 => ?_
 simp only [D.bnd, List.length_map] at hb0
 refine sw_bnd 1 rfl fun hb1 => ?_
 simp only [D.bnd, List.length_map] at hb1
 repeat' first | refine sw_seq ?_ | refine sw_block ?_ | refine sw_inBlock ?_ | refine sw_skip ?_ | refine sw_go 0 kp74 fun K hK => ?_ | refine fun (K : KT) (hK : KOk S 0 _ _ _ K) => ?_ | refine sw_goD kp74 (by kernel_rfl) fun K hK => ?_ | ((first | refine runL_go ?_ | refine runQ_go ?_ | refine sw_ret (ret0 ?_) | refine sw_ret ?_); simp (disch := (refine Om.mk ?_; omega)) only [go_sem, Try.results74]) | (refine hK.nil ?_; clear hK K; simp only [go_sem]) | ((first | refine sw_cond rfl ?_ ?_) <;> intro h <;> try simp (disch := (refine Om.mk ?_; omega)) only [go_sem] at h) | refine sw_exit rfl ?_ | refine sw_loopEnd ?_ | (with_reducible refine And.intro (by first | omega | (simp only [lens]; omega)) ?_) | fail
 ·intro e; exact h (by rw [e])
 refine sw_loopU (ι := Nat) (fun i => [(5, .int .i64 i)]) (fun _ => []) (fun i => i ≤ xs.length ∧ (∀ j < i, xs.getD j default = ys.getD j default)) (fun i => xs.length - i) 0 (by (refine covers_mk0 rfl rfl ?_ ?_ ?_ ?_ <;> simp (disch := (refine Om.mk ?_; omega)) only [go_sem] <;> (try omega))) ⟨by omega, ?_⟩ (fun i ⟨hi, hj⟩ => ?_)
 rotate_left
 simp only [go_sem]
 repeat' first | refine sw_seq ?_ | refine sw_block ?_ | refine sw_inBlock ?_ | refine sw_skip ?_ | refine sw_go 0 kp74 fun K hK => ?_ | refine fun (K : KT) (hK : KOk S 0 _ _ _ K) => ?_ | refine sw_goD kp74 (by kernel_rfl) fun K hK => ?_ | ((first | refine runL_go ?_ | refine runQ_go ?_ | refine sw_ret (ret0 ?_) | refine sw_ret ?_); simp (disch := (refine Om.mk ?_; omega)) only [go_sem, Try.results74]) | (refine hK.nil ?_; clear hK K; simp only [go_sem]) | ((first | refine sw_cond rfl ?_ ?_) <;> intro h <;> try simp (disch := (refine Om.mk ?_; omega)) only [go_sem] at h) | refine sw_exit rfl ?_ | refine sw_loopEnd ?_ | refine hK.c0 rfl rfl rfl (eqRule_fc _ _) rfl rfl rfl ?_ | (with_reducible refine And.intro (by first | omega | (simp only [lens]; omega)) ?_) | fail
 ·intro e; exact h (by rw [e])
 ·exact ⟨i + 1, by (refine covers_mk0 rfl rfl ?_ ?_ ?_ ?_ <;> simp (disch := (refine Om.mk ?_; omega)) only [go_sem] <;> (try omega)), ⟨by omega, upto_succ hj (by assumption)⟩, by omega⟩
 ·exact ext_getD (by assumption) fun j hj' => hj j (by omega)
 ·intro j hj'; omega
def kp35 : List (Nat × List Nat) := [(0, [2, 3]), (1, [2, 3, 10]), (2, [4]), (3, [16]), (4, [4]), (5, [4])]
attribute [go_sem] kp35
theorem eqSystem_fc (x y : SystemT) : FC S 35 [] [] [] [SystemD x, SystemD y] (.bool (tst (x = y))) [] [] := by
 refine fc_body Try.func35 rfl (by kernel_rfl) (by simp [Try.f35]) fun B => ?_
 simp only [Try.ntmps35, enumD, lst0, Nat.reduceAdd]
 repeat' first | refine sw_seq ?_ | refine sw_skip ?_ | refine sw_go 0 kp35 fun K hK => ?_ | refine fun (K : KT) (hK : KOk S 0 _ _ _ K) => ?_ | ((first | refine runL_go ?_ | refine sw_ret (ret0 ?_) | refine sw_ret ?_); simp (disch := (refine Om.mk ?_; omega)) only [go_sem, Try.results35]) | (refine hK.nil ?_; clear hK K; simp only [go_sem]) | ((first | refine sw_cond rfl ?_ ?_) <;> intro h <;> try simp (disch := (refine Om.mk ?_; omega)) only [go_sem] at h) | refine sw_loopEnd ?_ | refine hK.c0 rfl rfl rfl (eqSig_fc _ _) rfl rfl rfl ?_ | refine hK.c0 rfl rfl rfl (eqRuleS_fc _ _ _ _) rfl rfl rfl ?_ | (with_reducible refine And.intro (by first | omega | (simp only [lens]; omega)) ?_) | fail
 all_goals first | assumption | (intro e; subst e; contradiction) | (cases x; cases y; simp_all)
def kp39 : List (Nat × List Nat) := [(0, [0, 1]), (1, [1]), (2, [1, 10]), (3, [4]), (4, [4])]
attribute [go_sem] kp39
theorem szInt64S_fc (tk : Tk) (xs : List Int) (b : Int) (hb : -1 ≤ b ∧ b ≤ 1048576) : FC S 39 [] [] [] [.sl tk (xs.map (.int .i64)), .int .i64 b] (.int .i64 (szd b (cntInt64S xs))) [] [] := by
 refine fc_body Try.func39 rfl (by kernel_rfl) (by simp [Try.f39]) fun B => ?_
 simp only [Try.ntmps39, enumD, lst0, Nat.reduceAdd]
 refine sw_bnd 0 rfl fun hb0 => ?_
 simp only [D.bnd, List.length_map] at hb0
 repeat' first | refine sw_seq ?_ | refine sw_skip ?_ | refine sw_go 0 kp39 fun K hK => ?_ | refine fun (K : KT) (hK : KOk S 0 _ _ _ K) => ?_ | ((first | refine runL_go ?_ | refine sw_ret (ret0 ?_) | refine sw_ret ?_); simp (disch := (refine Om.mk ?_; omega)) only [go_sem, Try.results39]) | (refine hK.nil ?_; clear hK K; simp only [go_sem]) | ((first | refine sw_cond rfl ?_ ?_) <;> intro h <;> try simp (disch := (refine Om.mk ?_; omega)) only [go_sem] at h) | refine sw_loopEnd ?_ | (with_reducible refine And.intro (by first | omega | (simp only [lens]; omega)) ?_) | fail
 all_goals (simp only [szd, cntInt64S] at *; grind)
def kp107 : List (Nat × List Nat) := [(0, [1, 2]), (1, [1, 2]), (2, [1, 2, 10]), (3, [4]), (4, [1]), (5, [1, 16]), (6, [4]), (7, [4])]
attribute [go_sem] kp107
theorem szRule_fc (x : RuleT) (b : Int) (hb : -1 ≤ b ∧ b ≤ 1048576) : FC S 107 [] [] [] [RuleD x, .int .i64 b] (.int .i64 (szd b (cntRule x))) [] [] := by
 refine fc_body Try.func107 rfl (by kernel_rfl) (by simp [Try.f107]) fun B => ?_
 simp only [Try.ntmps107, enumD, lst0, Nat.reduceAdd]
 repeat' first | refine sw_seq ?_ | refine sw_skip ?_ | refine sw_go 0 kp107 fun K hK => ?_ | refine fun (K : KT) (hK : KOk S 0 _ _ _ K) => ?_ | ((first | refine runL_go ?_ | refine sw_ret (ret0 ?_) | refine sw_ret ?_); simp (disch := (refine Om.mk ?_; omega)) only [go_sem, Try.results107]) | (refine hK.nil ?_; clear hK K; simp only [go_sem]) | ((first | refine sw_cond rfl ?_ ?_) <;> intro h <;> try simp (disch := (refine Om.mk ?_; omega)) only [go_sem] at h) | refine sw_loopEnd ?_ | refine hK.c0 rfl rfl rfl (szInt64S_fc _ _ _ (by (first|exact hb|exact szd_rng hb|exact szd_rng (szd_rng hb)|exact szd_rng (szd_rng (szd_rng hb))|exact szd_rng (szd_rng (szd_rng (szd_rng hb)))|exact szd_rng (szd_rng (szd_rng (szd_rng (szd_rng hb))))|omega))) rfl rfl rfl ?_ | (with_reducible refine And.intro (by first | omega | (simp only [lens]; omega)) ?_) | fail
 all_goals (simp only [szd, cntRule] at *; grind)
def kp15 : List (Nat × List Nat) := [(0, [1, 2]), (1, [1]), (2, [1, 10]), (3, [4]), (4, [4])]
attribute [go_sem] kp15
theorem szSig_fc (x : List Int) (b : Int) (hb : -1 ≤ b ∧ b ≤ 1048576) : FC S 15 [] [] [] [SigD x, .int .i64 b] (.int .i64 (szd b (cntSig x))) [] [] := by
 refine fc_body Try.func15 rfl (by kernel_rfl) (by simp [Try.f15]) fun B => ?_
 simp only [Try.ntmps15, enumD, lst0, Nat.reduceAdd]
 repeat' first | refine sw_seq ?_ | refine sw_skip ?_ | refine sw_go 0 kp15 fun K hK => ?_ | refine fun (K : KT) (hK : KOk S 0 _ _ _ K) => ?_ | ((first | refine runL_go ?_ | refine sw_ret (ret0 ?_) | refine sw_ret ?_); simp (disch := (refine Om.mk ?_; omega)) only [go_sem, Try.results15]) | (refine hK.nil ?_; clear hK K; simp only [go_sem]) | ((first | refine sw_cond rfl ?_ ?_) <;> intro h <;> try simp (disch := (refine Om.mk ?_; omega)) only [go_sem] at h) | refine sw_loopEnd ?_ | refine hK.c0 rfl rfl rfl (szInt64S_fc _ _ _ (by (first|exact hb|exact szd_rng hb|exact szd_rng (szd_rng hb)|exact szd_rng (szd_rng (szd_rng hb))|exact szd_rng (szd_rng (szd_rng (szd_rng hb)))|exact szd_rng (szd_rng (szd_rng (szd_rng (szd_rng hb))))|omega))) rfl rfl rfl ?_ | (with_reducible refine And.intro (by first | omega | (simp only [lens]; omega)) ?_) | fail
 all_goals (simp only [szd, cntSig] at *; grind)
def kp64 : List (Nat × List Nat) := [(0, [0, 1]), (1, [0, 1]), (2, [0, 1, 11]), (3, [4]), (4, [0, 1, 5]), (5, [0, 1, 5, 15]), (7, [0, 1, 5]), (8, [0, 1, 5, 25]), (9, [4]), (6, [0, 1, 5]), (10, [4])]
attribute [go_sem] kp64
theorem szRuleS_fc (tk : Tk) (xs : List RuleT) (b : Int) (hb : -1 ≤ b ∧ b ≤ 1048576) : FC S 64 [] [] [] [.sl tk (xs.map RuleD), .int .i64 b] (.int .i64 (szd b (cntRuleS xs))) [] [] := by
 refine fc_body Try.func64 rfl (by kernel_rfl) (by simp [Try.f64]) fun B => ?_
 simp only [Try.ntmps64, enumD, lst0, Nat.reduceAdd]
 refine sw_bnd 0 rfl fun hb0 => ?_
 simp only [D.bnd, List.length_map] at hb0
 repeat' first | refine sw_seq ?_ | refine sw_block ?_ | refine sw_inBlock ?_ | refine sw_skip ?_ | refine sw_go 0 kp64 fun K hK => ?_ | refine fun (K : KT) (hK : KOk S 0 _ _ _ K) => ?_ | ((first | refine runL_go ?_ | refine sw_ret (ret0 ?_) | refine sw_ret ?_); simp (disch := (refine Om.mk ?_; omega)) only [go_sem, Try.results64]) | (refine hK.nil ?_; clear hK K; simp only [go_sem]) | ((first | refine sw_cond rfl ?_ ?_) <;> intro h <;> try simp (disch := (refine Om.mk ?_; omega)) only [go_sem] at h) | refine sw_exit rfl ?_ | refine sw_loopEnd ?_ | (with_reducible refine And.intro (by first | omega | (simp only [lens]; omega)) ?_) | fail
 ·simp only [szd, cntRuleS]; grind
 refine sw_loopU (ι := Nat) (fun i => [(5, .int .i64 i), (1, .int .i64 (b - xs.length - csum cntRule xs i))]) (fun _ => []) (fun i => i ≤ xs.length ∧ (0 ≤ b - xs.length - csum cntRule xs i)) (fun i => xs.length - i) 0 (by (refine covers_mk0 rfl rfl ?_ ?_ ?_ ?_ <;> simp (disch := (refine Om.mk ?_; omega)) only [go_sem] <;> (try omega))) ⟨by omega, ?_⟩ (fun i ⟨hi, hj⟩ => ?_)
 rotate_left
 simp only [go_sem]
 repeat' first | refine sw_seq ?_ | refine sw_block ?_ | refine sw_inBlock ?_ | refine sw_skip ?_ | refine sw_go 0 kp64 fun K hK => ?_ | refine fun (K : KT) (hK : KOk S 0 _ _ _ K) => ?_ | ((first | refine runL_go ?_ | refine sw_ret (ret0 ?_) | refine sw_ret ?_); simp (disch := (refine Om.mk ?_; omega)) only [go_sem, Try.results64]) | (refine hK.nil ?_; clear hK K; simp only [go_sem]) | ((first | refine sw_cond rfl ?_ ?_) <;> intro h <;> try simp (disch := (refine Om.mk ?_; omega)) only [go_sem] at h) | refine sw_exit rfl ?_ | refine sw_loopEnd ?_ | refine hK.c0 rfl rfl rfl (szRule_fc _ _ (by omega)) rfl rfl rfl ?_ | (with_reducible refine And.intro (by first | omega | (simp only [lens]; omega)) ?_) | fail
 ·have hs := csum_succ cntRule xs i (by omega)
  have hl := csum_le cntRule xs (i + 1)
  simp only [szd, cntRuleS] at *; grind
 ·have hs := csum_succ cntRule xs i (by omega)
  refine ⟨i + 1, (by (refine covers_mk0 rfl rfl ?_ ?_ ?_ ?_ <;> simp (disch := (refine Om.mk ?_; omega)) only [go_sem] <;> (try omega)); rw [hs]; simp only [szd] at *; grind), ⟨by omega, ?_⟩, by omega⟩
  simp only [szd] at *; grind
 ·have hs := csum_all cntRule xs i (by omega)
  simp only [szd, cntRuleS] at *; grind
 ·rw [csum_zero]; omega
def kp30 : List (Nat × List Nat) := [(0, [1, 2]), (1, [1, 2]), (2, [1, 2, 10]), (3, [4]), (4, [1]), (5, [1, 16]), (6, [4]), (7, [4])]
attribute [go_sem] kp30
theorem szSystem_fc (x : SystemT) (b : Int) (hb : -1 ≤ b ∧ b ≤ 1048576) : FC S 30 [] [] [] [SystemD x, .int .i64 b] (.int .i64 (szd b (cntSystem x))) [] [] := by
 refine fc_body Try.func30 rfl (by kernel_rfl) (by simp [Try.f30]) fun B => ?_
 simp only [Try.ntmps30, enumD, lst0, Nat.reduceAdd]
 repeat' first | refine sw_seq ?_ | refine sw_skip ?_ | refine sw_go 0 kp30 fun K hK => ?_ | refine fun (K : KT) (hK : KOk S 0 _ _ _ K) => ?_ | ((first | refine runL_go ?_ | refine sw_ret (ret0 ?_) | refine sw_ret ?_); simp (disch := (refine Om.mk ?_; omega)) only [go_sem, Try.results30]) | (refine hK.nil ?_; clear hK K; simp only [go_sem]) | ((first | refine sw_cond rfl ?_ ?_) <;> intro h <;> try simp (disch := (refine Om.mk ?_; omega)) only [go_sem] at h) | refine sw_loopEnd ?_ | refine hK.c0 rfl rfl rfl (szSig_fc _ _ (by (first|exact hb|exact szd_rng hb|exact szd_rng (szd_rng hb)|exact szd_rng (szd_rng (szd_rng hb))|exact szd_rng (szd_rng (szd_rng (szd_rng hb)))|exact szd_rng (szd_rng (szd_rng (szd_rng (szd_rng hb))))|omega))) rfl rfl rfl ?_ | refine hK.c0 rfl rfl rfl (szRuleS_fc _ _ _ (by (first|exact hb|exact szd_rng hb|exact szd_rng (szd_rng hb)|exact szd_rng (szd_rng (szd_rng hb))|exact szd_rng (szd_rng (szd_rng (szd_rng hb)))|exact szd_rng (szd_rng (szd_rng (szd_rng (szd_rng hb))))|omega))) rfl rfl rfl ?_ | (with_reducible refine And.intro (by first | omega | (simp only [lens]; omega)) ?_) | fail
 all_goals (simp only [szd, cntSystem] at *; grind)
def kp33 : List (Nat × List Nat) := [(0, [0]), (1, [0, 3]), (2, [0, 3, 4]), (3, [0, 3, 4, 11]), (5, [0, 3, 4]), (4, [0, 3, 4]), (6, [2])]
attribute [go_sem] kp33
theorem toInt64S_fc (tk : Tk) (xs : List Int) (hn : cntInt64S xs ≤ 1048576) : FC S 33 [] [] [] [.sl tk (xs.map (.int .i64))] (.sl .any (xs.map (.int .i64))) [] [] := by
 have hl : xs.length ≤ 1048576 := hn
 refine fc_body Try.func33 rfl (by kernel_rfl) (by simp [Try.f33]) fun B => ?_
 simp only [Try.ntmps33, enumD, lst0, Nat.reduceAdd]
 refine sw_bnd 0 rfl fun hb0 => ?_
 simp only [D.bnd, List.length_map] at hb0
 repeat' first | refine sw_seq ?_ | refine sw_block ?_ | refine sw_inBlock ?_ | refine sw_skip ?_ | refine sw_go 0 kp33 fun K hK => ?_ | refine fun (K : KT) (hK : KOk S 0 _ _ _ K) => ?_ | ((first | refine runL_go ?_ | refine sw_ret (ret0 ?_) | refine sw_ret ?_); simp (disch := (refine Om.mk ?_; omega)) only [go_sem, Try.results33]) | (refine hK.nil ?_; clear hK K; simp only [go_sem]) | ((first | refine sw_cond rfl ?_ ?_) <;> intro h <;> try simp (disch := (refine Om.mk ?_; omega)) only [go_sem] at h) | refine sw_exit rfl ?_ | refine sw_loopEnd ?_ | (with_reducible refine And.intro (by first | omega | (simp only [lens]; omega)) ?_) | ((with_reducible refine And.intro ?_ ?_); · first | (intro x hx; subst hx; rfl) | (intro x; refine And.intro ?_ ?_ <;> (intros; subst_vars; rfl))) | fail
 refine sw_loopU (ι := Nat) (fun i => [(4, .int .i64 i)]) (fun i => [(7, fillL (fun j => .int .i64 (xs.getD j default)) (.int .i64 0) i xs.length)]) (fun i => i ≤ xs.length ∧ (True)) (fun i => xs.length - i) 0 (by (refine covers_mk0 rfl rfl ?_ ?_ ?_ ?_ <;> simp (disch := (refine Om.mk ?_; omega)) only [go_sem] <;> (try omega)); exact fillL_start _ _ _) ⟨by omega, ?_⟩ (fun i ⟨hi, hj⟩ => ?_)
 rotate_left
 simp only [go_sem]
 repeat' first | (refine sw_freezeAt 6 3 1 .any (xs.map (.int .i64)) rfl rfl (by rw [show i = xs.length by omega]; exact (fillL_done (.int .i64) _ xs).trans (flat_ones _ _ (fun _ => rfl)).symm) (by rw [List.length_map]) (cells_one fun _ => rfl) (fillL_memOk (fun _ => rfl) rfl) (.inl rfl) ?_; simp only [go_sem]) | refine sw_seq ?_ | refine sw_block ?_ | refine sw_inBlock ?_ | refine sw_skip ?_ | refine sw_go 0 kp33 fun K hK => ?_ | refine fun (K : KT) (hK : KOk S 0 _ _ _ K) => ?_ | ((first | refine runL_go ?_ | refine sw_ret (ret0 ?_) | refine sw_ret ?_); simp (disch := (refine Om.mk ?_; omega)) only [go_sem, Try.results33]) | (refine hK.nil ?_; clear hK K; simp only [go_sem]) | ((first | refine sw_cond rfl ?_ ?_) <;> intro h <;> try simp (disch := (refine Om.mk ?_; omega)) only [go_sem] at h) | refine sw_exit rfl ?_ | refine sw_loopEnd ?_ | (with_reducible refine And.intro (by first | omega | (simp only [lens]; omega)) ?_) | ((with_reducible refine And.intro ?_ ?_); · first | (intro x hx; subst hx; rfl) | (intro x; refine And.intro ?_ ?_ <;> (intros; subst_vars; rfl))) | fail
 ·exact ⟨i + 1, (by (refine covers_mk0 rfl rfl ?_ ?_ ?_ ?_ <;> simp (disch := (refine Om.mk ?_; omega)) only [go_sem] <;> (try omega)); exact fillL_set (fun j => .int .i64 (xs.getD j default)) _ _ _), by omega, by omega⟩
 ·trivial
def kp114 : List (Nat × List Nat) := [(0, [1, 2]), (1, [1, 2, 3]), (2, [1, 2, 3]), (3, [2, 3]), (4, [2])]
attribute [go_sem] kp114
theorem toRule_fc (x : RuleT) (hn : cntRule x ≤ 1048576) : FC S 114 [] [] [] [RuleD x] (RuleD x) [] [] := by
 have hn' := hn
 simp only [cntRule] at hn'
 refine fc_body Try.func114 rfl (by kernel_rfl) (by simp [Try.f114]) fun B => ?_
 simp only [Try.ntmps114, enumD, lst0, Nat.reduceAdd]
 repeat' first | refine sw_seq ?_ | refine sw_skip ?_ | refine sw_go 0 kp114 fun K hK => ?_ | refine fun (K : KT) (hK : KOk S 0 _ _ _ K) => ?_ | ((first | refine runL_go ?_ | refine sw_ret (ret0 ?_) | refine sw_ret ?_); simp (disch := (refine Om.mk ?_; omega)) only [go_sem, Try.results114]) | (refine hK.nil ?_; clear hK K; simp only [go_sem]) | refine sw_loopEnd ?_ | refine hK.c0 rfl rfl rfl (toInt64S_fc _ _ (by omega)) rfl rfl rfl ?_ | (with_reducible refine And.intro (by first | omega | (simp only [lens]; omega)) ?_) | fail
 all_goals exact D.le.refl _
def kp19 : List (Nat × List Nat) := [(0, [1, 2]), (1, [1, 2, 3]), (2, [2, 3]), (3, [2])]
attribute [go_sem] kp19
theorem toSig_fc (x : List Int) (hn : cntSig x ≤ 1048576) : FC S 19 [] [] [] [SigD x] (SigD x) [] [] := by
 have hn' := hn
 simp only [cntSig] at hn'
 refine fc_body Try.func19 rfl (by kernel_rfl) (by simp [Try.f19]) fun B => ?_
 simp only [Try.ntmps19, enumD, lst0, Nat.reduceAdd]
 repeat' first | refine sw_seq ?_ | refine sw_skip ?_ | refine sw_go 0 kp19 fun K hK => ?_ | refine fun (K : KT) (hK : KOk S 0 _ _ _ K) => ?_ | ((first | refine runL_go ?_ | refine sw_ret (ret0 ?_) | refine sw_ret ?_); simp (disch := (refine Om.mk ?_; omega)) only [go_sem, Try.results19]) | (refine hK.nil ?_; clear hK K; simp only [go_sem]) | refine sw_loopEnd ?_ | refine hK.c0 rfl rfl rfl (toInt64S_fc _ _ (by omega)) rfl rfl rfl ?_ | (with_reducible refine And.intro (by first | omega | (simp only [lens]; omega)) ?_) | fail
 all_goals exact D.le.refl _
def kp69 : List (Nat × List Nat) := [(0, [0]), (1, [0, 3]), (2, [0, 3, 4]), (3, [0, 3, 4, 11]), (5, [0, 3, 4]), (4, [0, 3, 4]), (6, [2])]
attribute [go_sem] kp69
theorem toRuleS_fc (tk : Tk) (xs : List RuleT) (hn : cntRuleS xs ≤ 1048576) : FC S 69 [] [] [] [.sl tk (xs.map RuleD)] (.sl .any (xs.map RuleD)) [] [] := by
 have hl : xs.length ≤ 1048576 := by unfold cntRuleS at hn; omega
 have hq : ∀ i < xs.length, cntRule (xs.getD i default) ≤ 1048576 := fun i hi => by
  have := f_le_sum cntRule xs i hi
  unfold cntRuleS at hn; omega
 refine fc_body Try.func69 rfl (by kernel_rfl) (by simp [Try.f69]) fun B => ?_
 simp only [Try.ntmps69, enumD, lst0, Nat.reduceAdd]
 refine sw_bnd 0 rfl fun hb0 => ?_
 simp only [D.bnd, List.length_map] at hb0
 repeat' first | refine sw_seq ?_ | refine sw_block ?_ | refine sw_inBlock ?_ | refine sw_skip ?_ | refine sw_go 0 kp69 fun K hK => ?_ | refine fun (K : KT) (hK : KOk S 0 _ _ _ K) => ?_ | ((first | refine runL_go ?_ | refine sw_ret (ret0 ?_) | refine sw_ret ?_); simp (disch := (refine Om.mk ?_; omega)) only [go_sem, Try.results69]) | (refine hK.nil ?_; clear hK K; simp only [go_sem]) | ((first | refine sw_cond rfl ?_ ?_) <;> intro h <;> try simp (disch := (refine Om.mk ?_; omega)) only [go_sem] at h) | refine sw_exit rfl ?_ | refine sw_loopEnd ?_ | (with_reducible refine And.intro (by first | omega | (simp only [lens]; omega)) ?_) | ((with_reducible refine And.intro ?_ ?_); · first | (intro x hx; subst hx; rfl) | (intro x; refine And.intro ?_ ?_ <;> (intros; subst_vars; rfl))) | fail
 refine sw_loopU (ι := Nat) (fun i => [(4, .int .i64 i)]) (fun i => [(7, fillF (fun j => [.sl .any (((xs.getD j default)).l.map (.int .i64)), .sl .any (((xs.getD j default)).r.map (.int .i64))]) [.sl .nil [], .sl .nil []] i xs.length)]) (fun i => i ≤ xs.length ∧ (True)) (fun i => xs.length - i) 0 (by (refine covers_mk0 rfl rfl ?_ ?_ ?_ ?_ <;> simp (disch := (refine Om.mk ?_; omega)) only [go_sem] <;> (try omega)); exact fillF_start _ _ _) ⟨by omega, ?_⟩ (fun i ⟨hi, hj⟩ => ?_)
 rotate_left
 simp only [go_sem]
 have hm : i * 2 + 2 ≤ 2 * xs.length ∨ xs.length ≤ i := by omega
 repeat' first | (refine sw_freezeAt 6 3 2 .any (xs.map RuleD) rfl rfl (by rw [show i = xs.length by omega]; exact fillF_done RuleD _ xs) (by rw [List.length_map]) (cells_n fun _ => rfl) (fillF_memOk (fun j d hd => by revert d hd; simp [D.memOk]) (by simp [D.memOk])) (.inl rfl) ?_; simp only [go_sem]) | refine sw_seq ?_ | refine sw_block ?_ | refine sw_inBlock ?_ | refine sw_skip ?_ | refine sw_go 0 kp69 fun K hK => ?_ | refine fun (K : KT) (hK : KOk S 0 _ _ _ K) => ?_ | ((first | refine runL_go ?_ | refine sw_ret (ret0 ?_) | refine sw_ret ?_); simp (disch := (refine Om.mk ?_; omega)) only [go_sem, Try.results69]) | (refine hK.nil ?_; clear hK K; simp only [go_sem]) | ((first | refine sw_cond rfl ?_ ?_) <;> intro h <;> try simp (disch := (refine Om.mk ?_; omega)) only [go_sem] at h) | refine sw_exit rfl ?_ | refine sw_loopEnd ?_ | refine hK.c0 rfl rfl rfl (toRule_fc _ (by exact hq i (by omega))) rfl rfl rfl ?_ | (with_reducible refine And.intro (by first | omega | (simp only [lens]; omega)) ?_) | ((with_reducible refine And.intro ?_ ?_); · first | (intro x hx; subst hx; rfl) | (intro x; refine And.intro ?_ ?_ <;> (intros; subst_vars; rfl))) | fail
 ·exact ⟨i + 1, (by (refine covers_mk0 rfl rfl ?_ ?_ ?_ ?_ <;> simp (disch := (refine Om.mk ?_; omega)) only [go_sem] <;> (try omega)); exact fillF_put (f := fun j => [.sl .any (((xs.getD j default)).l.map (.int .i64)), .sl .any (((xs.getD j default)).r.map (.int .i64))]) (fun _ => rfl) rfl (by omega)), by omega, by omega⟩
 ·trivial
def kp32 : List (Nat × List Nat) := [(0, [1, 2]), (1, [1, 2, 3]), (2, [1, 2, 3]), (3, [2, 3]), (4, [2])]
attribute [go_sem] kp32
theorem toSystem_fc (x : SystemT) (hn : cntSystem x ≤ 1048576) : FC S 32 [] [] [] [SystemD x] (SystemD x) [] [] := by
 have hn' := hn
 simp only [cntSystem] at hn'
 refine fc_body Try.func32 rfl (by kernel_rfl) (by simp [Try.f32]) fun B => ?_
 simp only [Try.ntmps32, enumD, lst0, Nat.reduceAdd]
 repeat' first | refine sw_seq ?_ | refine sw_skip ?_ | refine sw_go 0 kp32 fun K hK => ?_ | refine fun (K : KT) (hK : KOk S 0 _ _ _ K) => ?_ | ((first | refine runL_go ?_ | refine sw_ret (ret0 ?_) | refine sw_ret ?_); simp (disch := (refine Om.mk ?_; omega)) only [go_sem, Try.results32]) | (refine hK.nil ?_; clear hK K; simp only [go_sem]) | refine sw_loopEnd ?_ | refine hK.c0 rfl rfl rfl (toSig_fc _ (by omega)) rfl rfl rfl ?_ | refine hK.c0 rfl rfl rfl (toRuleS_fc _ _ (by omega)) rfl rfl rfl ?_ | (with_reducible refine And.intro (by first | omega | (simp only [lens]; omega)) ?_) | fail
 all_goals exact D.le.refl _
end Go.Proofs.Ytlcdahaihlflaaa
end
