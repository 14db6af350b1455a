/-
  Unification: the root of a term.
-/
import Derived.Test.YtlcdahaihlflaaaU01
import Derived.Test.YtlcdahaihlflaaaLgK14
namespace Go.Proofs.Ytlcdahaihlflaaa
open Go Go.Lg
set_option linter.unusedSimpArgs false
set_option linter.unusedVariables false
set_option maxHeartbeats 4000000
attribute [local irreducible] SW runL runQ runG runQG FC Ret1
/-- what a variable is bound to: nothing, or a term -/
def bD (x : List Int) : D := if x = [] then .sl .nil [] else .sl .any (x.map (.int .i64))
theorem bD_nil : bD [] = .sl .nil [] := rfl
theorem bD_some {x : List Int} (h : x ≠ []) : bD x = .sl .any (x.map (.int .i64)) := if_neg h
/-- the unifier's cells -/
def uC (rs : List Int) (β : List (List Int)) : List D := .sl .any (rs.map (.int .i64)) :: β.map bD
def BOK (rs : List Int) (β : List (List Int)) : Prop := β.length = 48 ∧ ∀ x ∈ β, x = [] ∨ XT rs x
def vIx (n : Int) : Nat := (-1 - n).toNat
def rootM (β : List (List Int)) : Nat → List Int → Option (List Int)
  | 0, _ => none
  | f + 1, t => if t.getD 0 default < 0 ∧ β.getD (vIx (t.getD 0 default)) default ≠ [] then rootM β f (β.getD (vIx (t.getD 0 default)) default) else some t
theorem BOK.get {rs : List Int} {β : List (List Int)} (h : BOK rs β) {i : Nat} (hi : β.getD i default ≠ []) : XT rs (β.getD i default) := by
  by_cases hl : i < β.length
  · exact (h.2 _ (getD_mem β i hl)).resolve_left hi
  · exact absurd (by rw [List.getD_eq_getElem?_getD, List.getElem?_eq_none (by omega)]; rfl) hi
theorem XT.ne {rs t : List Int} (h : XT rs t) : t ≠ [] := by
  rintro rfl
  have := h.len
  simp at this
theorem uC_read (rs : List Int) {β : List (List Int)} (hl : β.length = 48) {i : Nat} (hi : i < 48) : (List.drop (1 + i) (D.sl .any (rs.map (.int .i64)) :: β.map bD)).head? = some (bD (β.getD i default)) := by
  rw [Nat.add_comm, List.drop_succ_cons, ← List.map_drop, List.head?_map, List.head?_drop, List.getD_eq_getElem?_getD, List.getElem?_eq_getElem (by omega)]
  rfl
theorem bD_ids (x : List Int) : (bD x).ids = [] := by unfold bD; split <;> rfl
theorem tksU_ints (k : IntKind) (ys : List Int) : D.tksL (ys.map (D.int k)) = [] := by
  induction ys with
  | nil => rfl
  | cons y r ih => simp [D.tksL, D.tks, ih]
theorem bD_tks (x : List Int) : (bD x).tks = [] := by
  unfold bD; split
  · rfl
  · simp [D.tks, tksU_ints]
theorem idsL_bD (β : List (List Int)) : D.idsL (β.map bD) = [] := by
  induction β with
  | nil => rfl
  | cons y r ih => simp [D.idsL, bD_ids, ih]
theorem tksL_bD (β : List (List Int)) : D.tksL (β.map bD) = [] := by
  induction β with
  | nil => rfl
  | cons y r ih => simp [D.tksL, bD_tks, ih]
theorem puOk_intsU (p : Nat → Bool) (ys : List Int) : ((ys.map (D.int .i64)).all fun d => d.puOk p) = true := by
  rw [List.all_map]
  exact List.all_eq_true.2 fun _ _ => rfl
theorem puOk_bD (p : Nat → Bool) (β : List (List Int)) : ((β.map bD).all fun d => d.puOk p) = true := by
  rw [List.all_map]
  refine List.all_eq_true.2 fun x _ => ?_
  show (bD x).puOk p = true
  unfold bD; split
  · rfl
  · simp [D.puOk, D.pu, D.pu1, D.tks, tksU_ints]
theorem tksL_bool (ys : List Bool) : D.tksL (ys.map D.bool) = [] := by
  induction ys with
  | nil => rfl
  | cons y r ih => simp [D.tksL, D.tks, ih]
theorem idsL_bool (ys : List Bool) : D.idsL (ys.map D.bool) = [] := by
  induction ys with
  | nil => rfl
  | cons y r ih => simp [D.idsL, D.ids, ih]
theorem puOk_bool (p : Nat → Bool) (ys : List Bool) : ((ys.map D.bool).all fun d => d.puOk p) = true := by
  rw [List.all_map]
  exact List.all_eq_true.2 fun _ _ => rfl
theorem shTL_bool (k : Nat) (ys : List Bool) : D.shTL k (ys.map D.bool) = ys.map D.bool := by
  induction ys with
  | nil => rfl
  | cons y r ih => simp [D.shTL, D.shT, ih]
theorem shT_bD (k : Nat) (x : List Int) : (bD x).shT k = bD x := by
  unfold bD; split
  · rfl
  · rfl
theorem shTL_bD (k : Nat) (β : List (List Int)) : D.shTL k (β.map bD) = β.map bD := by
  induction β with
  | nil => rfl
  | cons y r ih => simp [D.shTL, shT_bD, ih]
attribute [go_sem] shTL_bool shTL_bD idsL_bD tksL_bD idsL_bool tksL_bool
attribute [local irreducible] bD
def kp131 : List (Nat × List Nat) := [(0, [0, 1]), (1, [0, 1, 20]), (2, [0, 1]), (3, [4])]
attribute [go_sem] kp131
theorem root_fc (id : Nat) (rs : List Int) (β : List (List Int)) (hβ : BOK rs β) (f : Nat) (t r : List Int) (hr : rootM β f t = some r) (hT : XT rs t) : FC S 131 [(id, uC rs β)] [] [] [.box id 0, .sl .any (t.map (.int .i64))] (.sl .any (r.map (.int .i64))) [] [] := by
  have hlb := hβ.1
  unfold uC
  refine fc_body Try.func131 rfl (by kernel_rfl) (by simp [Try.f131]) fun B => ?_
  simp only [Try.ntmps131, enumD, List.map_nil, List.map_cons, List.length_map, Nat.zero_add, Nat.reduceAdd]
  repeat' first
    | exact Bool.noConfusion h
    | refine sw_seq ?_
    | refine sw_block ?_
    | refine sw_skip ?_
    | refine sw_inBlock ?_
    | refine sw_go 0 kp131 fun K hK => ?_
    | refine fun (K : List Oper → LS → Prop) (hK : KOk S 0 _ _ _ K) => ?_
    | refine sw_goD kp131 (by kernel_rfl) fun K hK => ?_
    | ((first | refine runL_go ?_ | refine runQ_go ?_); simp (disch := (refine Om.mk ?_; omega)) only [go_sem])
    | (refine hK.nil ?_; clear hK K; simp only [go_sem])
    | (refine runG_fork rfl rfl rfl rfl rfl (fun h => ?_) (fun h => ?_) <;> (try simp (disch := (refine Om.mk ?_; omega)) only [go_sem] at h))
    | (refine runQG_fork rfl rfl rfl rfl rfl (fun h => ?_) (fun h => ?_) <;> (try simp (disch := (refine Om.mk ?_; omega)) only [go_sem] at h))
    | (refine hK.skip rfl (by simp only [dstOk, Nat.reduceLT]) ?_)
    | (refine sw_cond rfl (fun h => ?_) (fun h => ?_) <;> (try simp (disch := (refine Om.mk ?_; omega)) only [go_sem] at h))
    | (refine sw_exit rfl ?_)
    | (refine sw_loopEnd ?_)
    | ((first | refine sw_ret (ret0 ?_) | refine sw_ret ?_); simp (disch := (refine Om.mk ?_; omega)) only [go_sem, Try.results131])
    | (refine hK.fork rfl rfl rfl (fun h => ?_) (fun h => ?_) <;> (try simp (disch := (refine Om.mk ?_; omega)) only [go_sem] at h))
    | (with_reducible refine And.intro (by first | omega | (simp only [List.length_append, List.length_take, List.length_drop, List.length_cons, List.length_nil, List.length_map]; omega)) ?_)
    | ((with_reducible refine And.intro ?_ ?_); · first | (intro x hx; subst hx; rfl) | exact upR_mem fun _ _ => rfl | exact mapR_mem fun _ _ => rfl | (intro x; refine And.intro ?_ ?_ <;> (intros; subst_vars; rfl)))
    | fail
  refine sw_loopU (ι := Nat × List Int) (fun p => [(1, .sl .any (p.2.map (.int .i64)))]) (fun p => []) (fun p => rootM β p.1 p.2 = some r ∧ XT rs p.2) (fun p => p.1) (f, t) (by (refine covers_mk0 rfl rfl ?_ ?_ ?_ ?_ <;> simp (disch := (refine Om.mk ?_; omega)) only [go_sem] <;> (try omega))) ?_ (fun p hp => ?_)
  rotate_left
  simp only [go_sem]
  obtain ⟨k, u⟩ := p
  obtain ⟨h1, h2⟩ := hp
  dsimp only at h1 h2
  rcases k with _ | k
  · cases h1
  have hg := h2.get (a := 0) (by have := h2.len; omega)
  have hl := h2.len
  by_cases hv : u.getD 0 default < 0
  · obtain ⟨m, hm, hm8⟩ : ∃ m : Nat, u.getD 0 default = -1 - (m : Int) ∧ m < 48 := ⟨vIx (u.getD 0 default), by unfold vIx; omega, by unfold vIx; omega⟩
    have hix : vIx (u.getD 0 default) = m := by unfold vIx; omega
    unfold rootM at h1
    rw [hix] at h1
    by_cases hb : β.getD m default = []
    · rw [if_neg (by rintro ⟨_, h⟩; exact h hb)] at h1
      obtain rfl := Option.some.inj h1
      have hrd := uC_read rs hlb (i := (-1 - u.getD 0 default).toNat) (by omega)
      rw [show (-1 - u.getD 0 default).toNat = m from hix, hb, bD_nil] at hrd
      rw [← show (-1 - u.getD 0 default).toNat = m from hix] at hrd
      repeat' first
        | ((exfalso; omega))
        | ((rw [hrd]; simp only [go_sem]))
        | exact Bool.noConfusion h
        | refine sw_seq ?_
        | refine sw_block ?_
        | refine sw_skip ?_
        | refine sw_inBlock ?_
        | refine sw_go 0 kp131 fun K hK => ?_
        | refine fun (K : List Oper → LS → Prop) (hK : KOk S 0 _ _ _ K) => ?_
        | refine sw_goD kp131 (by kernel_rfl) fun K hK => ?_
        | ((first | refine runL_go ?_ | refine runQ_go ?_); simp (disch := (refine Om.mk ?_; omega)) only [go_sem])
        | (refine hK.nil ?_; clear hK K; simp only [go_sem])
        | (refine runG_fork rfl rfl rfl rfl rfl (fun h => ?_) (fun h => ?_) <;> (try simp (disch := (refine Om.mk ?_; omega)) only [go_sem] at h))
        | (refine runQG_fork rfl rfl rfl rfl rfl (fun h => ?_) (fun h => ?_) <;> (try simp (disch := (refine Om.mk ?_; omega)) only [go_sem] at h))
        | (refine hK.skip rfl (by simp only [dstOk, Nat.reduceLT]) ?_)
        | (refine sw_cond rfl (fun h => ?_) (fun h => ?_) <;> (try simp (disch := (refine Om.mk ?_; omega)) only [go_sem] at h))
        | (refine sw_exit rfl ?_)
        | (refine sw_loopEnd ?_)
        | ((first | refine sw_ret (ret0 ?_) | refine sw_ret ?_); simp (disch := (refine Om.mk ?_; omega)) only [go_sem, Try.results131])
        | (refine hK.fork rfl rfl rfl (fun h => ?_) (fun h => ?_) <;> (try simp (disch := (refine Om.mk ?_; omega)) only [go_sem] at h))
        | (with_reducible refine And.intro (by first | omega | (simp only [List.length_append, List.length_take, List.length_drop, List.length_cons, List.length_nil, List.length_map]; omega)) ?_)
        | ((with_reducible refine And.intro ?_ ?_); · first | (intro x hx; subst hx; rfl) | exact upR_mem fun _ _ => rfl | exact mapR_mem fun _ _ => rfl | (intro x; refine And.intro ?_ ?_ <;> (intros; subst_vars; rfl)))
        | fail
      all_goals trace_state
    · rw [if_pos ⟨hv, hb⟩] at h1
      have hrd := uC_read rs hlb (i := (-1 - u.getD 0 default).toNat) (by omega)
      rw [show (-1 - u.getD 0 default).toNat = m from hix, bD_some hb] at hrd
      rw [← show (-1 - u.getD 0 default).toNat = m from hix] at hrd
      have hb2 : (β.getD (-1 - u.getD 0 default).toNat default).map (D.int .i64) ≠ [] := by rw [show (-1 - u.getD 0 default).toNat = m from hix]; simpa using hb
      repeat' first
        | ((exfalso; omega))
        | ((rw [hrd]; simp only [go_sem]))
        | ((refine ⟨hb2, ?_⟩))
        | exact Bool.noConfusion h
        | refine sw_seq ?_
        | refine sw_block ?_
        | refine sw_skip ?_
        | refine sw_inBlock ?_
        | refine sw_go 0 kp131 fun K hK => ?_
        | refine fun (K : List Oper → LS → Prop) (hK : KOk S 0 _ _ _ K) => ?_
        | refine sw_goD kp131 (by kernel_rfl) fun K hK => ?_
        | ((first | refine runL_go ?_ | refine runQ_go ?_); simp (disch := (refine Om.mk ?_; omega)) only [go_sem])
        | (refine hK.nil ?_; clear hK K; simp only [go_sem])
        | (refine runG_fork rfl rfl rfl rfl rfl (fun h => ?_) (fun h => ?_) <;> (try simp (disch := (refine Om.mk ?_; omega)) only [go_sem] at h))
        | (refine runQG_fork rfl rfl rfl rfl rfl (fun h => ?_) (fun h => ?_) <;> (try simp (disch := (refine Om.mk ?_; omega)) only [go_sem] at h))
        | (refine hK.skip rfl (by simp only [dstOk, Nat.reduceLT]) ?_)
        | (refine sw_cond rfl (fun h => ?_) (fun h => ?_) <;> (try simp (disch := (refine Om.mk ?_; omega)) only [go_sem] at h))
        | (refine sw_exit rfl ?_)
        | (refine sw_loopEnd ?_)
        | ((first | refine sw_ret (ret0 ?_) | refine sw_ret ?_); simp (disch := (refine Om.mk ?_; omega)) only [go_sem, Try.results131])
        | (refine hK.fork rfl rfl rfl (fun h => ?_) (fun h => ?_) <;> (try simp (disch := (refine Om.mk ?_; omega)) only [go_sem] at h))
        | (with_reducible refine And.intro (by first | omega | (simp only [List.length_append, List.length_take, List.length_drop, List.length_cons, List.length_nil, List.length_map]; omega)) ?_)
        | ((with_reducible refine And.intro ?_ ?_); · first | (intro x hx; subst hx; rfl) | exact upR_mem fun _ _ => rfl | exact mapR_mem fun _ _ => rfl | (intro x; refine And.intro ?_ ?_ <;> (intros; subst_vars; rfl)))
        | fail
      exact ⟨(k, β.getD (-1 - u.getD 0 default).toNat default), (by (refine covers_mk0 rfl rfl ?_ ?_ ?_ ?_ <;> simp (disch := (refine Om.mk ?_; omega)) only [go_sem] <;> (try omega))), ⟨by rw [show (-1 - u.getD 0 default).toNat = m from hix]; exact h1, by rw [show (-1 - u.getD 0 default).toNat = m from hix]; exact hβ.get hb⟩, by simp⟩
  · unfold rootM at h1
    rw [if_neg (by rintro ⟨h, _⟩; exact hv h)] at h1
    obtain rfl := Option.some.inj h1
    repeat' first
      | ((exfalso; omega))
      | exact Bool.noConfusion h
      | refine sw_seq ?_
      | refine sw_block ?_
      | refine sw_skip ?_
      | refine sw_inBlock ?_
      | refine sw_go 0 kp131 fun K hK => ?_
      | refine fun (K : List Oper → LS → Prop) (hK : KOk S 0 _ _ _ K) => ?_
      | refine sw_goD kp131 (by kernel_rfl) fun K hK => ?_
      | ((first | refine runL_go ?_ | refine runQ_go ?_); simp (disch := (refine Om.mk ?_; omega)) only [go_sem])
      | (refine hK.nil ?_; clear hK K; simp only [go_sem])
      | (refine runG_fork rfl rfl rfl rfl rfl (fun h => ?_) (fun h => ?_) <;> (try simp (disch := (refine Om.mk ?_; omega)) only [go_sem] at h))
      | (refine runQG_fork rfl rfl rfl rfl rfl (fun h => ?_) (fun h => ?_) <;> (try simp (disch := (refine Om.mk ?_; omega)) only [go_sem] at h))
      | (refine hK.skip rfl (by simp only [dstOk, Nat.reduceLT]) ?_)
      | (refine sw_cond rfl (fun h => ?_) (fun h => ?_) <;> (try simp (disch := (refine Om.mk ?_; omega)) only [go_sem] at h))
      | (refine sw_exit rfl ?_)
      | (refine sw_loopEnd ?_)
      | ((first | refine sw_ret (ret0 ?_) | refine sw_ret ?_); simp (disch := (refine Om.mk ?_; omega)) only [go_sem, Try.results131])
      | (refine hK.fork rfl rfl rfl (fun h => ?_) (fun h => ?_) <;> (try simp (disch := (refine Om.mk ?_; omega)) only [go_sem] at h))
      | (with_reducible refine And.intro (by first | omega | (simp only [List.length_append, List.length_take, List.length_drop, List.length_cons, List.length_nil, List.length_map]; omega)) ?_)
      | ((with_reducible refine And.intro ?_ ?_); · first | (intro x hx; subst hx; rfl) | exact upR_mem fun _ _ => rfl | exact mapR_mem fun _ _ => rfl | (intro x; refine And.intro ?_ ?_ <;> (intros; subst_vars; rfl)))
      | fail
  · exact ⟨hr, hT⟩
end Go.Proofs.Ytlcdahaihlflaaa
