/-
  D05, D06, one behind the other.
-/
import Derived.Test.YtfokjjlbdaabaaaD04
import Derived.Test.YtfokjjlbdaabaaaA20
import Derived.Test.YtfokjjlbdaabaaaLgK12
section
namespace Go.Proofs.Ytfokjjlbdaabaaa
open Go Go.Lg
set_option linter.unusedSimpArgs false
set_option linter.unusedVariables false
set_option maxHeartbeats 4000000
attribute [local irreducible] SW runL runQ runG runQG FC Ret1 toF redoL anyB
end Go.Proofs.Ytfokjjlbdaabaaa
end
section
namespace Go.Proofs.Ytfokjjlbdaabaaa
open Go Go.Lg
set_option linter.unusedSimpArgs false
set_option linter.unusedVariables false
set_option maxHeartbeats 4000000
attribute [local irreducible] SW runL runQ runG runQG FC Ret1 toF redoL anyB
def newH (bs : List Int) : Nat → Int
  | 0 => 570029 + (bs.length : Int)
  | i + 1 => bits .and .i64 (newH bs i * 317 + bs.getD i default + 11) 1073741823
def newC (bs : List Int) : Cu := ⟨0, newH bs bs.length⟩
theorem newH_s (bs : List Int) (i : Nat) : newH bs (i + 1) = bits .and .i64 (newH bs i * 317 + bs.getD i default + 11) 1073741823 := rfl
theorem newH_z (bs : List Int) : newH bs 0 = 570029 + (bs.length : Int) := rfl
theorem and30 (a : Int) : 0 ≤ bits .and .i64 a 1073741823 ∧ bits .and .i64 a 1073741823 ≤ 1073741823 := by
  have h : (BitVec.ofInt 64 a &&& BitVec.ofInt 64 1073741823).toNat ≤ 1073741823 := by
    rw [BitVec.toNat_and]
    exact Nat.le_trans Nat.and_le_right (by decide)
  have e : bits .and .i64 a 1073741823 = ((BitVec.ofInt 64 a &&& BitVec.ofInt 64 1073741823).toNat : Int) := by
    show IntKind.wrap .i64 ((BitVec.ofInt 64 a &&& BitVec.ofInt 64 1073741823).toNat : Int) = _
    simp (disch := omega) only [IntKind.wrap_i64]
    omega
  rw [e]; omega
theorem newH_le (bs : List Int) (hl : bs.length ≤ 4096) : ∀ i, 0 ≤ newH bs i ∧ newH bs i ≤ 1073741823
  | 0 => by rw [newH_z]; omega
  | i + 1 => by rw [newH_s]; exact and30 _
attribute [local irreducible] newH
def kp25 : List (Nat × List Nat) := [(0, [0]), (1, [0, 3]), (2, [0, 3, 4]), (3, [0, 3, 4, 11]), (5, [0, 3, 4]), (4, [0, 3, 4]), (6, [2])]
attribute [go_sem] kp25
theorem l1New_fc (bs : List Int) (hb : BytesP bs) (hl : bs.length ≤ 4096) : FC S 25 [] [] [] [.sl .any (bs.map (.int .u8))] (.box 27 0) [(27, [.sl .any (bs.map (.int .u8)), .int .i64 (newC bs).i, .int .i64 (newC bs).h])] [] := by
  refine fc_body Try.func25 rfl (by kernel_rfl) (by simp [Try.f25]) fun B => ?_
  simp only [Try.ntmps25, enumD, List.map_nil, List.map_cons, List.length_map, Nat.zero_add, Nat.reduceAdd]
  repeat' first
    | exact Bool.noConfusion h
    | refine sw_seq ?_
    | refine sw_block ?_
    | refine sw_skip ?_
    | refine sw_inBlock ?_
    | refine sw_go 0 kp25 fun K hK => ?_
    | refine fun (K : List Oper → LS → Prop) (hK : KOk S 0 _ _ _ K) => ?_
    | ((first | refine runL_go ?_ | refine runQ_go ?_); simp (disch := (refine Om.mk ?_; omega)) only [go_sem])
    | (refine hK.nil ?_; clear hK K; simp only [go_sem])
    | (refine sw_cond rfl (fun h => ?_) (fun h => ?_) <;> (try simp (disch := (refine Om.mk ?_; omega)) only [go_sem] at h))
    | (refine sw_exit rfl ?_)
    | (refine sw_loopEnd ?_)
    | ((first | refine sw_ret (ret0 ?_) | refine sw_ret ?_); simp (disch := (refine Om.mk ?_; omega)) only [go_sem, Try.results25])
    | (with_reducible refine And.intro (by first | omega | (simp only [List.length_append, List.length_take, List.length_drop, List.length_cons, List.length_nil, List.length_map]; omega)) ?_)
    | ((with_reducible refine And.intro ?_ ?_); · first | (intro x hx; subst hx; rfl) | exact upR_mem fun _ _ => rfl | exact mapR_mem fun _ _ => rfl | (intro x; refine And.intro ?_ ?_ <;> (intros; subst_vars; rfl)))
    | fail
  refine sw_loopT (ι := Nat) (fun i => [(4, .int .i64 i), (3, .int .i64 (newH bs i))]) (fun _ => []) (fun _ => []) (fun i => i ≤ bs.length) (fun i => bs.length - i) 0 (by rw [newH_z]; (refine covers_mk0 rfl rfl ?_ ?_ ?_ ?_ <;> simp (disch := (refine Om.mk ?_; omega)) only [go_sem] <;> (try omega)); all_goals first | rfl | exact ⟨rfl, rfl⟩ | omega | trace_state) (by omega) (fun i hi => ?_)
  simp only [go_sem]
  have h1 := newH_le bs hl i
  have h2 := newH_s bs i
  have h3 : i < bs.length → 0 ≤ bs.getD i default ∧ bs.getD i default ≤ 255 := fun hlt => hb _ (getD_mem bs i hlt)
  repeat' first
    | ((exfalso; omega))
    | exact Bool.noConfusion h
    | refine sw_seq ?_
    | refine sw_block ?_
    | refine sw_skip ?_
    | refine sw_inBlock ?_
    | refine sw_go 0 kp25 fun K hK => ?_
    | refine fun (K : List Oper → LS → Prop) (hK : KOk S 0 _ _ _ K) => ?_
    | ((first | refine runL_go ?_ | refine runQ_go ?_); simp (disch := (refine Om.mk ?_; omega)) only [go_sem])
    | (refine hK.nil ?_; clear hK K; simp only [go_sem])
    | (refine sw_cond rfl (fun h => ?_) (fun h => ?_) <;> (try simp (disch := (refine Om.mk ?_; omega)) only [go_sem] at h))
    | (refine sw_exit rfl ?_)
    | (refine sw_loopEnd ?_)
    | ((first | refine sw_ret (ret0 ?_) | refine sw_ret ?_); simp (disch := (refine Om.mk ?_; omega)) only [go_sem, Try.results25])
    | (with_reducible refine And.intro (by first | omega | (simp only [List.length_append, List.length_take, List.length_drop, List.length_cons, List.length_nil, List.length_map]; omega)) ?_)
    | ((with_reducible refine And.intro ?_ ?_); · first | (intro x hx; subst hx; rfl) | exact upR_mem fun _ _ => rfl | exact mapR_mem fun _ _ => rfl | (intro x; refine And.intro ?_ ?_ <;> (intros; subst_vars; rfl)))
    | fail
  · exact ⟨i + 1, (by rw [h2]; (refine covers_mk0 rfl rfl ?_ ?_ ?_ ?_ <;> simp (disch := (refine Om.mk ?_; omega)) only [go_sem] <;> (try omega)); all_goals first | rfl | exact ⟨rfl, rfl⟩ | exact ⟨rfl, by omega⟩ | omega | trace_state), by omega, by omega⟩
  · have e0 : i = bs.length := by omega
    rw [e0]
    exact ⟨rfl, rfl⟩
theorem sigU_ok (bs : List Int) (c : Cu) : ∀ k, ∀ x ∈ (sigU bs c k).1, 0 ≤ x ∧ x ≤ 3
  | 0, x, hx => by rw [sigU_z] at hx; rw [List.mem_singleton.1 hx]; omega
  | k + 1, x, hx => by
    rw [sigU_s1] at hx
    rcases List.mem_append.1 hx with hx | hx
    · exact sigU_ok bs c k x hx
    · rw [List.mem_singleton.1 hx]
      have := belowV_lt bs (sigU bs c k).2 (show (0 : Int) < 3 by omega)
      omega
theorem sigV_ok (bs : List Int) (c : Cu) : SigOkP (sigV bs c).1 := by
  unfold sigV
  split
  · have h := belowV_lt bs (belowC bs c 4) (show (0 : Int) < 4 by omega)
    have hl := sigU_len bs (belowC bs (belowC bs c 4) 4) (belowV bs (belowC bs c 4) 4).toNat
    exact ⟨by omega, fun j hj => sigU_ok _ _ _ _ (getD_mem _ j hj)⟩
  · exact ⟨by simp, fun j hj => by
      have : ∀ x ∈ ([2, 1, 0] : List Int), 0 ≤ x ∧ x ≤ 3 := by simp
      exact this _ (getD_mem _ j hj)⟩
attribute [local irreducible] sigV anyV newC belowV belowC
end Go.Proofs.Ytfokjjlbdaabaaa
end
