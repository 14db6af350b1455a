/-
  The drawing functions: the cursor.
-/
import Derived.Test.YtfokjjlbdaabaaaSet
import Derived.Test.YtfokjjlbdaabaaaA01
import Derived.Test.YtfokjjlbdaabaaaLgK10
namespace Go.Proofs.Ytfokjjlbdaabaaa
open Go Go.Lg
set_option linter.unusedSimpArgs false
set_option linter.unusedVariables false
set_option maxHeartbeats 4000000
attribute [local irreducible] SW runL runQ runG runQG FC Ret1 toF redoL
structure Cu where
  i : Nat
  h : Int
def mixH (h : Int) : Int := IntKind.wrap .i64 (IntKind.wrap .i64 (h * 6364136223846793005) + 1442695040888963407)
def byteX (h : Int) : Int := bits .and .i64 (bits .xor .i64 (mixH h / 2 ^ 33) (mixH h / 2 ^ 45)) 255
def byteV (bs : List Int) (c : Cu) : Int := if c.i < bs.length then bits .and .i64 (IntKind.wrap .i64 (byteX c.h + bs.getD c.i default)) 255 else byteX c.h
def nextC (bs : List Int) (c : Cu) : Cu := ⟨if c.i < bs.length then c.i + 1 else c.i, mixH c.h⟩
theorem and255 (a : Int) : 0 ≤ bits .and .i64 a 255 ∧ bits .and .i64 a 255 ≤ 255 := by
  have h : (BitVec.ofInt 64 a &&& BitVec.ofInt 64 255).toNat ≤ 255 := by
    rw [BitVec.toNat_and]
    exact Nat.le_trans Nat.and_le_right (by decide)
  have e : bits .and .i64 a 255 = ((BitVec.ofInt 64 a &&& BitVec.ofInt 64 255).toNat : Int) := by
    show IntKind.wrap .i64 ((BitVec.ofInt 64 a &&& BitVec.ofInt 64 255).toNat : Int) = _
    simp (disch := omega) only [IntKind.wrap_i64]
    omega
  rw [e]; omega
theorem byteV_le (bs : List Int) (c : Cu) : 0 ≤ byteV bs c ∧ byteV bs c ≤ 255 := by
  unfold byteV byteX
  split <;> exact and255 _
def BytesP (bs : List Int) : Prop := ∀ x ∈ bs, 0 ≤ x ∧ x ≤ 255
def kp86 : List (Nat × List Nat) := [(0, [0]), (1, [0]), (2, [0, 3]), (3, [0, 3, 34]), (4, [0, 3]), (5, [3]), (6, [2])]
attribute [go_sem] kp86
theorem l1Byte_fc (id : Nat) (bs : List Int) (hb : BytesP bs) (c : Cu) : FC S 86 [] [(id, [.sl .any (bs.map (.int .u8)), .int .i64 (c).i, .int .i64 (c).h])] [] [.box id 0] (.int .i64 (byteV bs c)) [(id, [.sl .any (bs.map (.int .u8)), .int .i64 (nextC bs c).i, .int .i64 (nextC bs c).h])] [] := by
  obtain ⟨i, hh⟩ := c
  have hbi : i < bs.length → 0 ≤ bs.getD i default ∧ bs.getD i default ≤ 255 := fun hlt => hb _ (getD_mem bs i hlt)
  by_cases hlt : i < bs.length
  · have hbi := hbi hlt
    simp only [byteV, nextC, if_pos hlt]
    refine fc_body Try.func86 rfl (by kernel_rfl) (by simp [Try.f86]) fun B => ?_
    simp only [Try.ntmps86, enumD, List.map_nil, List.map_cons, List.length_map, Nat.zero_add, Nat.reduceAdd]
    refine sw_bnd_box id 0 (if_pos rfl) rfl fun hbid_0 => ?_
    simp only [D.bnd, List.length_map] at hbid_0
    repeat' first
      | exact Bool.noConfusion h
      | refine sw_seq ?_
      | refine sw_block ?_
      | refine sw_skip ?_
      | refine sw_inBlock ?_
      | refine sw_go 0 kp86 fun K hK => ?_
      | refine fun (K : List Oper → LS → Prop) (hK : KOk S 0 _ _ _ K) => ?_
      | refine sw_goD kp86 (by kernel_rfl) fun K hK => ?_
      | ((first | refine runL_go ?_ | refine runQ_go ?_); simp (disch := (refine Om.mk ?_; omega)) only [go_sem])
      | (refine hK.nil ?_; clear hK K; simp only [go_sem])
      | (refine sw_cond rfl (fun h => ?_) (fun h => ?_) <;> (try simp (disch := (refine Om.mk ?_; omega)) only [go_sem] at h))
      | (refine sw_exit rfl ?_)
      | (refine sw_loopEnd ?_)
      | ((first | refine sw_ret (ret0 ?_) | refine sw_ret ?_); simp (disch := (refine Om.mk ?_; omega)) only [go_sem, Try.results86])
      | (with_reducible refine And.intro (by first | omega | (simp only [List.length_append, List.length_take, List.length_drop, List.length_cons, List.length_nil, List.length_map]; omega)) ?_)
      | ((with_reducible refine And.intro ?_ ?_); · first | (intro x hx; subst hx; rfl) | exact upR_mem fun _ _ => rfl | exact mapR_mem fun _ _ => rfl | (intro x; refine And.intro ?_ ?_ <;> (intros; subst_vars; rfl)))
      | fail
    all_goals first | (exfalso; omega) | exact ⟨rfl, by omega, rfl⟩
  · simp only [byteV, nextC, if_neg hlt]
    refine fc_body Try.func86 rfl (by kernel_rfl) (by simp [Try.f86]) fun B => ?_
    simp only [Try.ntmps86, enumD, List.map_nil, List.map_cons, List.length_map, Nat.zero_add, Nat.reduceAdd]
    refine sw_bnd_box id 0 (if_pos rfl) rfl fun hbid_0 => ?_
    simp only [D.bnd, List.length_map] at hbid_0
    repeat' first
      | exact Bool.noConfusion h
      | refine sw_seq ?_
      | refine sw_block ?_
      | refine sw_skip ?_
      | refine sw_inBlock ?_
      | refine sw_go 0 kp86 fun K hK => ?_
      | refine fun (K : List Oper → LS → Prop) (hK : KOk S 0 _ _ _ K) => ?_
      | refine sw_goD kp86 (by kernel_rfl) fun K hK => ?_
      | ((first | refine runL_go ?_ | refine runQ_go ?_); simp (disch := (refine Om.mk ?_; omega)) only [go_sem])
      | (refine hK.nil ?_; clear hK K; simp only [go_sem])
      | (refine sw_cond rfl (fun h => ?_) (fun h => ?_) <;> (try simp (disch := (refine Om.mk ?_; omega)) only [go_sem] at h))
      | (refine sw_exit rfl ?_)
      | (refine sw_loopEnd ?_)
      | ((first | refine sw_ret (ret0 ?_) | refine sw_ret ?_); simp (disch := (refine Om.mk ?_; omega)) only [go_sem, Try.results86])
      | (with_reducible refine And.intro (by first | omega | (simp only [List.length_append, List.length_take, List.length_drop, List.length_cons, List.length_nil, List.length_map]; omega)) ?_)
      | ((with_reducible refine And.intro ?_ ?_); · first | (intro x hx; subst hx; rfl) | exact upR_mem fun _ _ => rfl | exact mapR_mem fun _ _ => rfl | (intro x; refine And.intro ?_ ?_ <;> (intros; subst_vars; rfl)))
      | fail
    all_goals first | (exfalso; omega) | exact ⟨rfl, rfl⟩
theorem tmod_lt {a n : Int} (h : 0 ≤ a) (hn : 0 < n) : 0 ≤ a.tmod n ∧ a.tmod n < n := ⟨Int.tmod_nonneg n h, Int.tmod_lt_of_pos a hn⟩
/-- below n (not above 256) -/
def belowV (bs : List Int) (c : Cu) (n : Int) : Int := if n ≤ 0 then 0 else (byteV bs c).tmod n
def belowC (bs : List Int) (c : Cu) (n : Int) : Cu := if n ≤ 0 then c else nextC bs c
theorem belowV_lt (bs : List Int) (c : Cu) {n : Int} (hn : 0 < n) : 0 ≤ belowV bs c n ∧ belowV bs c n < n := by
  unfold belowV; rw [if_neg (by omega)]
  exact tmod_lt (byteV_le bs c).1 hn
def kp52 : List (Nat × List Nat) := [(0, [0, 1]), (1, [0, 1, 10]), (2, [4]), (3, [0, 1, 12]), (4, [4]), (5, [0, 1, 5]), (6, [0, 1, 5, 6]), (7, [0, 1, 5, 6, 7]), (8, [1, 5, 6, 7, 8]), (9, [4])]
attribute [go_sem] kp52
theorem l1Below_fc (id : Nat) (bs : List Int) (hb : BytesP bs) (c : Cu) (n : Int) (hn : n ≤ 256) : FC S 52 [] [(id, [.sl .any (bs.map (.int .u8)), .int .i64 (c).i, .int .i64 (c).h])] [] [.box id 0, .int .i64 n] (.int .i64 (belowV bs c n)) [(id, [.sl .any (bs.map (.int .u8)), .int .i64 (belowC bs c n).i, .int .i64 (belowC bs c n).h])] [] := by
  by_cases h0 : n ≤ 0
  · simp only [belowV, belowC, if_pos h0]
    refine fc_body Try.func52 rfl (by kernel_rfl) (by simp [Try.f52]) fun B => ?_
    simp only [Try.ntmps52, enumD, List.map_nil, List.map_cons, List.length_map, Nat.zero_add, Nat.reduceAdd]
    repeat' first
      | ((exfalso; omega))
      | exact Bool.noConfusion h
      | refine sw_seq ?_
      | refine sw_block ?_
      | refine sw_skip ?_
      | refine sw_inBlock ?_
      | refine sw_go 0 kp52 fun K hK => ?_
      | refine fun (K : List Oper → LS → Prop) (hK : KOk S 0 _ _ _ K) => ?_
      | ((first | refine runL_go ?_ | refine runQ_go ?_); simp (disch := (refine Om.mk ?_; omega)) only [go_sem])
      | (refine hK.nil ?_; clear hK K; simp only [go_sem])
      | (refine sw_cond rfl (fun h => ?_) (fun h => ?_) <;> (try simp (disch := (refine Om.mk ?_; omega)) only [go_sem] at h))
      | (refine sw_exit rfl ?_)
      | (refine sw_loopEnd ?_)
      | ((first | refine sw_ret (ret0 ?_) | refine sw_ret ?_); simp (disch := (refine Om.mk ?_; omega)) only [go_sem, Try.results52])
      | (with_reducible refine And.intro (by first | omega | (simp only [List.length_append, List.length_take, List.length_drop, List.length_cons, List.length_nil, List.length_map]; omega)) ?_)
      | ((with_reducible refine And.intro ?_ ?_); · first | (intro x hx; subst hx; rfl) | exact upR_mem fun _ _ => rfl | exact mapR_mem fun _ _ => rfl | (intro x; refine And.intro ?_ ?_ <;> (intros; subst_vars; rfl)))
      | fail
  · have hv := byteV_le bs c
    simp only [belowV, belowC, if_neg h0]
    refine fc_body Try.func52 rfl (by kernel_rfl) (by simp [Try.f52]) fun B => ?_
    simp only [Try.ntmps52, enumD, List.map_nil, List.map_cons, List.length_map, Nat.zero_add, Nat.reduceAdd]
    repeat' first
      | ((exfalso; omega))
      | exact Bool.noConfusion h
      | refine sw_seq ?_
      | refine sw_block ?_
      | refine sw_skip ?_
      | refine sw_inBlock ?_
      | refine sw_go 0 kp52 fun K hK => ?_
      | refine fun (K : List Oper → LS → Prop) (hK : KOk S 0 _ _ _ K) => ?_
      | ((first | refine runL_go ?_ | refine runQ_go ?_); simp (disch := (refine Om.mk ?_; omega)) only [go_sem])
      | (refine hK.nil ?_; clear hK K; simp only [go_sem])
      | (refine sw_cond rfl (fun h => ?_) (fun h => ?_) <;> (try simp (disch := (refine Om.mk ?_; omega)) only [go_sem] at h))
      | (refine sw_exit rfl ?_)
      | (refine sw_loopEnd ?_)
      | ((first | refine sw_ret (ret0 ?_) | refine sw_ret ?_); simp (disch := (refine Om.mk ?_; omega)) only [go_sem, Try.results52])
      | (refine hK.callB rfl rfl rfl (l1Byte_fc id bs hb c) ⟨⟨by simp only [Nat.reduceLT], (by first | (simp; all_goals fail) | (simp [LS.getBox, Lg.look]; all_goals fail)), by (simp [Lg.look]; all_goals fail), by (simp; all_goals fail), by (simp; all_goals fail)⟩, ⟨by (simp [D.ids, D.idsL]; all_goals fail), by (simp [D.ids, D.idsL]; all_goals fail), by (simp [D.tks, D.tksL]; all_goals fail), by (simp [D.tks, D.tksL]; all_goals fail), by (simp; all_goals fail)⟩, rfl⟩ ?_; simp (disch := (refine Om.mk ?_; omega)) only [go_sem])
      | (with_reducible refine And.intro (by first | omega | (simp only [List.length_append, List.length_take, List.length_drop, List.length_cons, List.length_nil, List.length_map]; omega)) ?_)
      | ((with_reducible refine And.intro ?_ ?_); · first | (intro x hx; subst hx; rfl) | exact upR_mem fun _ _ => rfl | exact mapR_mem fun _ _ => rfl | (intro x; refine And.intro ?_ ?_ <;> (intros; subst_vars; rfl)))
      | fail
def kp43 : List (Nat × List Nat) := [(0, [0, 1]), (1, [4])]
attribute [go_sem] kp43
theorem l1Once_fc (id : Nat) (bs : List Int) (hb : BytesP bs) (c : Cu) (n : Int) (hn : n ≤ 256) : FC S 43 [] [(id, [.sl .any (bs.map (.int .u8)), .int .i64 (c).i, .int .i64 (c).h])] [] [.box id 0, .int .i64 n] (.bool (tst (belowV bs c n = 0))) [(id, [.sl .any (bs.map (.int .u8)), .int .i64 (belowC bs c n).i, .int .i64 (belowC bs c n).h])] [] := by
  refine fc_body Try.func43 rfl (by kernel_rfl) (by simp [Try.f43]) fun B => ?_
  simp only [Try.ntmps43, enumD, List.map_nil, List.map_cons, List.length_map, Nat.zero_add, Nat.reduceAdd]
  repeat' first
    | exact Bool.noConfusion h
    | refine sw_seq ?_
    | refine sw_block ?_
    | refine sw_skip ?_
    | refine sw_inBlock ?_
    | refine sw_go 0 kp43 fun K hK => ?_
    | refine fun (K : List Oper → LS → Prop) (hK : KOk S 0 _ _ _ K) => ?_
    | ((first | refine runL_go ?_ | refine runQ_go ?_); simp (disch := (refine Om.mk ?_; omega)) only [go_sem])
    | (refine hK.nil ?_; clear hK K; simp only [go_sem])
    | (refine sw_cond rfl (fun h => ?_) (fun h => ?_) <;> (try simp (disch := (refine Om.mk ?_; omega)) only [go_sem] at h))
    | (refine sw_exit rfl ?_)
    | (refine sw_loopEnd ?_)
    | ((first | refine sw_ret (ret0 ?_) | refine sw_ret ?_); simp (disch := (refine Om.mk ?_; omega)) only [go_sem, Try.results43])
    | (refine hK.callB rfl rfl rfl (l1Below_fc id bs hb c n hn) ⟨⟨by simp only [Nat.reduceLT], (by first | (simp; all_goals fail) | (simp [LS.getBox, Lg.look]; all_goals fail)), by (simp [Lg.look]; all_goals fail), by (simp; all_goals fail), by (simp; all_goals fail)⟩, ⟨by (simp [D.ids, D.idsL]; all_goals fail), by (simp [D.ids, D.idsL]; all_goals fail), by (simp [D.tks, D.tksL]; all_goals fail), by (simp [D.tks, D.tksL]; all_goals fail), by (simp; all_goals fail)⟩, rfl⟩ ?_; simp (disch := (refine Om.mk ?_; omega)) only [go_sem])
    | (with_reducible refine And.intro (by first | omega | (simp only [List.length_append, List.length_take, List.length_drop, List.length_cons, List.length_nil, List.length_map]; omega)) ?_)
    | ((with_reducible refine And.intro ?_ ?_); · first | (intro x hx; subst hx; rfl) | exact upR_mem fun _ _ => rfl | exact mapR_mem fun _ _ => rfl | (intro x; refine And.intro ?_ ?_ <;> (intros; subst_vars; rfl)))
    | fail
def fromV (bs : List Int) (c : Cu) (lo hi : Int) : Int := lo + belowV bs c (hi - lo + 1)
def kp87 : List (Nat × List Nat) := [(0, [0, 1, 2]), (1, [6])]
attribute [go_sem] kp87
theorem l1From_fc (id : Nat) (bs : List Int) (hb : BytesP bs) (c : Cu) (lo hi : Int) (h1 : -1000 ≤ lo ∧ lo ≤ 1000) (h2 : lo ≤ hi) (h3 : hi ≤ lo + 200) : FC S 87 [] [(id, [.sl .any (bs.map (.int .u8)), .int .i64 (c).i, .int .i64 (c).h])] [] [.box id 0, .int .i64 lo, .int .i64 hi] (.int .i64 (fromV bs c lo hi)) [(id, [.sl .any (bs.map (.int .u8)), .int .i64 (belowC bs c (hi - lo + 1)).i, .int .i64 (belowC bs c (hi - lo + 1)).h])] [] := by
  have hf := belowV_lt bs c (show 0 < hi - lo + 1 by omega)
  unfold fromV
  refine fc_body Try.func87 rfl (by kernel_rfl) (by simp [Try.f87]) fun B => ?_
  simp only [Try.ntmps87, enumD, List.map_nil, List.map_cons, List.length_map, Nat.zero_add, Nat.reduceAdd]
  repeat' first
    | exact Bool.noConfusion h
    | refine sw_seq ?_
    | refine sw_block ?_
    | refine sw_skip ?_
    | refine sw_inBlock ?_
    | refine sw_go 0 kp87 fun K hK => ?_
    | refine fun (K : List Oper → LS → Prop) (hK : KOk S 0 _ _ _ K) => ?_
    | ((first | refine runL_go ?_ | refine runQ_go ?_); simp (disch := (refine Om.mk ?_; omega)) only [go_sem])
    | (refine hK.nil ?_; clear hK K; simp only [go_sem])
    | (refine sw_cond rfl (fun h => ?_) (fun h => ?_) <;> (try simp (disch := (refine Om.mk ?_; omega)) only [go_sem] at h))
    | (refine sw_exit rfl ?_)
    | (refine sw_loopEnd ?_)
    | ((first | refine sw_ret (ret0 ?_) | refine sw_ret ?_); simp (disch := (refine Om.mk ?_; omega)) only [go_sem, Try.results87])
    | (refine hK.callB rfl rfl rfl (l1Below_fc id bs hb c (hi - lo + 1) (by omega)) ⟨⟨by simp only [Nat.reduceLT], (by first | (simp; all_goals fail) | (simp [LS.getBox, Lg.look]; all_goals fail)), by (simp [Lg.look]; all_goals fail), by (simp; all_goals fail), by (simp; all_goals fail)⟩, ⟨by (simp [D.ids, D.idsL]; all_goals fail), by (simp [D.ids, D.idsL]; all_goals fail), by (simp [D.tks, D.tksL]; all_goals fail), by (simp [D.tks, D.tksL]; all_goals fail), by (simp; all_goals fail)⟩, rfl⟩ ?_; simp (disch := (refine Om.mk ?_; omega)) only [go_sem])
    | (with_reducible refine And.intro (by first | omega | (simp only [List.length_append, List.length_take, List.length_drop, List.length_cons, List.length_nil, List.length_map]; omega)) ?_)
    | ((with_reducible refine And.intro ?_ ?_); · first | (intro x hx; subst hx; rfl) | exact upR_mem fun _ _ => rfl | exact mapR_mem fun _ _ => rfl | (intro x; refine And.intro ?_ ?_ <;> (intros; subst_vars; rfl)))
    | fail
def oddL : List Int := [-1, 0, 1, 2147483648, -2147483648, 1099511627776, 4611686018427387904, -4611686018427387904, 9223372036854775807, -9223372036854775808]
def oddV (bs : List Int) (c : Cu) : Int := oddL.getD (belowV bs c 10).toNat default
def kp88 : List (Nat × List Nat) := [(0, [0]), (1, [2])]
attribute [go_sem] kp88
theorem l1Odd_fc (id : Nat) (bs : List Int) (hb : BytesP bs) (c : Cu) : FC S 88 [] [(id, [.sl .any (bs.map (.int .u8)), .int .i64 (c).i, .int .i64 (c).h])] [] [.box id 0] (.int .i64 (oddV bs c)) [(id, [.sl .any (bs.map (.int .u8)), .int .i64 (belowC bs c 10).i, .int .i64 (belowC bs c 10).h])] [] := by
  have hf := belowV_lt bs c (show (0 : Int) < 10 by omega)
  obtain ⟨m, hm, hlt⟩ : ∃ m : Nat, belowV bs c 10 = (m : Int) ∧ m < 10 := ⟨(belowV bs c 10).toNat, by omega, by omega⟩
  have ev : oddV bs c = oddL.getD m default := by unfold oddV; rw [hm]; rfl
  rw [ev]
  refine fc_body Try.func88 rfl (by kernel_rfl) (by simp [Try.f88]) fun B => ?_
  simp only [Try.ntmps88, enumD, List.map_nil, List.map_cons, List.length_map, Nat.zero_add, Nat.reduceAdd]
  repeat' first
    | exact Bool.noConfusion h
    | refine sw_seq ?_
    | refine sw_block ?_
    | refine sw_skip ?_
    | refine sw_inBlock ?_
    | refine sw_go 0 kp88 fun K hK => ?_
    | refine fun (K : List Oper → LS → Prop) (hK : KOk S 0 _ _ _ K) => ?_
    | ((first | refine runL_go ?_ | refine runQ_go ?_); simp (disch := (refine Om.mk ?_; omega)) only [go_sem])
    | (refine hK.nil ?_; clear hK K; simp only [go_sem])
    | (refine sw_cond rfl (fun h => ?_) (fun h => ?_) <;> (try simp (disch := (refine Om.mk ?_; omega)) only [go_sem] at h))
    | (refine sw_exit rfl ?_)
    | (refine sw_loopEnd ?_)
    | ((first | refine sw_ret (ret0 ?_) | refine sw_ret ?_); simp (disch := (refine Om.mk ?_; omega)) only [go_sem, Try.results88])
    | (refine hK.callB rfl rfl rfl (l1Below_fc id bs hb c 10 (by omega)) ⟨⟨by simp only [Nat.reduceLT], (by first | (simp; all_goals fail) | (simp [LS.getBox, Lg.look]; all_goals fail)), by (simp [Lg.look]; all_goals fail), by (simp; all_goals fail), by (simp; all_goals fail)⟩, ⟨by (simp [D.ids, D.idsL]; all_goals fail), by (simp [D.ids, D.idsL]; all_goals fail), by (simp [D.tks, D.tksL]; all_goals fail), by (simp [D.tks, D.tksL]; all_goals fail), by (simp; all_goals fail)⟩, rfl⟩ ?_; simp (disch := (refine Om.mk ?_; omega)) only [go_sem])
    | (with_reducible refine And.intro (by first | omega | (simp only [List.length_append, List.length_take, List.length_drop, List.length_cons, List.length_nil, List.length_map]; omega)) ?_)
    | ((with_reducible refine And.intro ?_ ?_); · first | (intro x hx; subst hx; rfl) | exact upR_mem fun _ _ => rfl | exact mapR_mem fun _ _ => rfl | (intro x; refine And.intro ?_ ?_ <;> (intros; subst_vars; rfl)))
    | fail
  rw [hm]
  have h10 : m = 0 ∨ m = 1 ∨ m = 2 ∨ m = 3 ∨ m = 4 ∨ m = 5 ∨ m = 6 ∨ m = 7 ∨ m = 8 ∨ m = 9 := by omega
  clear hm ev hf
  rcases h10 with rfl | rfl | rfl | rfl | rfl | rfl | rfl | rfl | rfl | rfl
  all_goals refine ⟨rfl, ?_⟩
  all_goals simp only [go_sem]
  repeat' first
    | exact Bool.noConfusion h
    | refine sw_seq ?_
    | refine sw_block ?_
    | refine sw_skip ?_
    | refine sw_inBlock ?_
    | refine sw_go 0 kp88 fun K hK => ?_
    | refine fun (K : List Oper → LS → Prop) (hK : KOk S 0 _ _ _ K) => ?_
    | ((first | refine runL_go ?_ | refine runQ_go ?_); simp (disch := (refine Om.mk ?_; omega)) only [go_sem])
    | (refine hK.nil ?_; clear hK K; simp only [go_sem])
    | (refine sw_cond rfl (fun h => ?_) (fun h => ?_) <;> (try simp (disch := (refine Om.mk ?_; omega)) only [go_sem] at h))
    | (refine sw_exit rfl ?_)
    | (refine sw_loopEnd ?_)
    | ((first | refine sw_ret (ret0 ?_) | refine sw_ret ?_); simp (disch := (refine Om.mk ?_; omega)) only [go_sem, Try.results88])
    | (with_reducible refine And.intro (by first | omega | (simp only [List.length_append, List.length_take, List.length_drop, List.length_cons, List.length_nil, List.length_map]; omega)) ?_)
    | ((with_reducible refine And.intro ?_ ?_); · first | (intro x hx; subst hx; rfl) | exact upR_mem fun _ _ => rfl | exact mapR_mem fun _ _ => rfl | (intro x; refine And.intro ?_ ?_ <;> (intros; subst_vars; rfl)))
    | fail
  all_goals rfl
end Go.Proofs.Ytfokjjlbdaabaaa
