/-
  Unification: does a variable occur in a term, through all bindings.
-/
import Derived.Test.YtlcdahaihlflaaaU02
namespace Go.Proofs.Ytlcdahaihlflaaa
open Go Go.Lg
set_option linter.unusedSimpArgs false
set_option linter.unusedVariables false
set_option maxHeartbeats 4000000
attribute [local irreducible] SW runL runQ runG runQG FC Ret1 bD
def occL (β : List (List Int)) (n : Int) (rec : List Int → List Bool → Option (Bool × List Bool)) : List Int → List Bool → Option (Bool × List Bool)
  | [], s => some (false, s)
  | m :: r, s =>
    if m = n then some (true, s)
    else if 0 ≤ m ∨ s.getD (vIx m) default = true then occL β n rec r s
    else if β.getD (vIx m) default = [] then occL β n rec r (s.set (vIx m) true)
    else match rec (β.getD (vIx m) default) (s.set (vIx m) true) with
      | none => none
      | some (true, s') => some (true, s')
      | some (false, s') => occL β n rec r s'
def occM (β : List (List Int)) (n : Int) : Nat → List Int → List Bool → Option (Bool × List Bool)
  | 0, _, _ => none
  | f + 1, t, s => occL β n (occM β n f) t s
theorem occL_len {β : List (List Int)} {n : Int} {rec : List Int → List Bool → Option (Bool × List Bool)} (hrec : ∀ t s q, rec t s = some q → q.2.length = s.length) : ∀ t s q, occL β n rec t s = some q → q.2.length = s.length
  | [], s, q, h => by obtain rfl := Option.some.inj h; rfl
  | m :: r, s, q, h => by
    unfold occL at h
    split at h
    · obtain rfl := Option.some.inj h; rfl
    · split at h
      · exact occL_len hrec r s q h
      · split at h
        · rw [occL_len hrec r _ q h, List.length_set]
        · split at h
          · cases h
          · rename_i s' hq; obtain rfl := Option.some.inj h
            have := hrec _ _ _ hq; rw [List.length_set] at this; exact this
          · rename_i s' hq
            have := hrec _ _ _ hq
            rw [occL_len hrec r _ q h]; rw [List.length_set] at this; exact this
theorem occM_len {β : List (List Int)} {n : Int} : ∀ f t s q, occM β n f t s = some q → q.2.length = s.length
  | 0, _, _, _, h => by cases h
  | f + 1, t, s, q, h => occL_len (occM_len f) t s q h
theorem set_map_bool (ys : List Bool) (i : Nat) (x : Bool) : (ys.map D.bool).set i (.bool x) = (ys.set i x).map D.bool := by rw [List.map_set]
attribute [go_sem] set_map_bool
def kp132 : List (Nat × List Nat) := [(0, [0, 1, 2, 3]), (1, [0, 1, 3, 12, 13, 14]), (2, [0, 1, 3, 12, 13, 14, 15]), (3, [0, 1, 3, 10, 12, 13, 14]), (4, [0, 1, 3, 10, 12, 13, 14, 20]), (5, [8]), (6, [0, 1, 3, 10, 12, 13, 14, 30]), (7, [0, 1, 3, 10, 12, 13, 14]), (8, [0, 1, 3, 11, 12, 13, 14]), (9, [0, 1, 3, 12, 13, 14, 51]), (10, [8]), (11, [0, 1, 3, 12, 13, 14]), (12, [8])]
attribute [go_sem] kp132
theorem occurs_fc (id : Nat) (rs : List Int) (β : List (List Int)) (hβ : BOK rs β) (n : Int) : ∀ (f : Nat) (t : List Int) (s : List Bool) (q : Bool × List Bool), occM β n f t s = some q → XT rs t → s.length = 48 → FC S 132 [(id + 1000, uC rs β)] [(64, s.map .bool)] [] [.box (id + 1000) 0, .int .i64 n, .sl .any (t.map (.int .i64)), .box 64 0] (.bool q.1) [(64, q.2.map .bool)] [] := by
  have hlb := hβ.1
  unfold uC
  intro f
  induction f with
  | zero => intro t s q h; cases h
  | succ f ih =>
    intro t s q hq hT hs
    have hq : occL β n (occM β n f) t s = some q := hq
    have hTl := hT.len
    refine fc_body Try.func132 rfl (by kernel_rfl) (by simp [Try.f132]) fun B => ?_
    simp only [Try.ntmps132, enumD, List.map_nil, List.map_cons, List.length_map, Nat.zero_add, Nat.reduceAdd]
    repeat' first
      | exact Bool.noConfusion h
      | refine sw_seq ?_
      | refine sw_block ?_
      | refine sw_skip ?_
      | refine sw_inBlock ?_
      | refine sw_go 0 kp132 fun K hK => ?_
      | refine fun (K : List Oper → LS → Prop) (hK : KOk S 0 _ _ _ K) => ?_
      | ((first | refine runL_go ?_ | refine runQ_go ?_); simp (disch := (refine Om.mk ?_; omega)) only [go_sem])
      | (refine hK.nil ?_; clear hK K; simp only [go_sem])
      | (refine runG_fork rfl rfl rfl rfl rfl (fun h => ?_) (fun h => ?_) <;> (try simp (disch := (refine Om.mk ?_; omega)) only [go_sem] at h))
      | (refine hK.skip rfl (by simp only [dstOk, Nat.reduceLT]) ?_)
      | (refine sw_cond rfl (fun h => ?_) (fun h => ?_) <;> (try simp (disch := (refine Om.mk ?_; omega)) only [go_sem] at h))
      | (refine sw_exit rfl ?_)
      | (refine sw_loopEnd ?_)
      | ((first | refine sw_ret (ret0 ?_) | refine sw_ret ?_); simp (disch := (refine Om.mk ?_; omega)) only [go_sem, Try.results132])
      | (refine hK.fork rfl rfl rfl (fun h => ?_) (fun h => ?_) <;> (try simp (disch := (refine Om.mk ?_; omega)) only [go_sem] at h))
      | (with_reducible refine And.intro (by first | omega | (simp only [List.length_append, List.length_take, List.length_drop, List.length_cons, List.length_nil, List.length_map]; omega)) ?_)
      | ((with_reducible refine And.intro ?_ ?_); · first | (intro x hx; subst hx; rfl) | exact upR_mem fun _ _ => rfl | exact mapR_mem fun _ _ => rfl | (intro x; refine And.intro ?_ ?_ <;> (intros; subst_vars; rfl)))
      | fail
    refine sw_loopU (ι := Nat × List Bool) (fun p => [(14, .int .i64 p.1)]) (fun p => [(64, p.2.map .bool)]) (fun p => (p.1 ≤ t.length ∧ p.2.length = 48) ∧ occL β n (occM β n f) (t.drop p.1) p.2 = some q) (fun p => t.length - p.1) (0, s) (by (refine covers_mk0 rfl rfl ?_ ?_ ?_ ?_ <;> simp (disch := (refine Om.mk ?_; omega)) only [go_sem] <;> (try omega))) ?_ (fun p hp => ?_)
    rotate_left
    simp only [go_sem]
    obtain ⟨i, u⟩ := p
    obtain ⟨⟨hi, hu⟩, h2⟩ := hp
    dsimp only at hi hu h2
    by_cases hil : i < t.length
    · rw [List.drop_eq_getElem_cons hil, show t[i] = t.getD i default by simp [List.getD_eq_getElem?_getD, hil]] at h2
      have hg := hT.get hil
      unfold occL at h2
      by_cases hn : t.getD i default = n
      · rw [if_pos hn] at h2
        obtain rfl := Option.some.inj h2
        repeat' first
          | ((exfalso; omega))
          | ((exact absurd hn (by assumption)))
          | exact Bool.noConfusion h
          | refine sw_seq ?_
          | refine sw_block ?_
          | refine sw_skip ?_
          | refine sw_inBlock ?_
          | refine sw_go 0 kp132 fun K hK => ?_
          | refine fun (K : List Oper → LS → Prop) (hK : KOk S 0 _ _ _ K) => ?_
          | ((first | refine runL_go ?_ | refine runQ_go ?_); simp (disch := (refine Om.mk ?_; omega)) only [go_sem])
          | (refine hK.nil ?_; clear hK K; simp only [go_sem])
          | (refine runG_fork rfl rfl rfl rfl rfl (fun h => ?_) (fun h => ?_) <;> (try simp (disch := (refine Om.mk ?_; omega)) only [go_sem] at h))
          | (refine hK.skip rfl (by simp only [dstOk, Nat.reduceLT]) ?_)
          | (refine sw_cond rfl (fun h => ?_) (fun h => ?_) <;> (try simp (disch := (refine Om.mk ?_; omega)) only [go_sem] at h))
          | (refine sw_exit rfl ?_)
          | (refine sw_loopEnd ?_)
          | ((first | refine sw_ret (ret0 ?_) | refine sw_ret ?_); simp (disch := (refine Om.mk ?_; omega)) only [go_sem, Try.results132])
          | (refine hK.fork rfl rfl rfl (fun h => ?_) (fun h => ?_) <;> (try simp (disch := (refine Om.mk ?_; omega)) only [go_sem] at h))
          | (with_reducible refine And.intro (by first | omega | (simp only [List.length_append, List.length_take, List.length_drop, List.length_cons, List.length_nil, List.length_map]; omega)) ?_)
          | ((with_reducible refine And.intro ?_ ?_); · first | (intro x hx; subst hx; rfl) | exact upR_mem fun _ _ => rfl | exact mapR_mem fun _ _ => rfl | (intro x; refine And.intro ?_ ?_ <;> (intros; subst_vars; rfl)))
          | fail
        all_goals first | rfl | exact ⟨rfl, rfl⟩ | trace_state
      · rw [if_neg hn] at h2
        by_cases h0 : 0 ≤ t.getD i default
        · rw [if_pos (.inl h0)] at h2
          repeat' first
            | ((exfalso; omega))
            | ((exact absurd (by assumption) hn))
            | exact Bool.noConfusion h
            | refine sw_seq ?_
            | refine sw_block ?_
            | refine sw_skip ?_
            | refine sw_inBlock ?_
            | refine sw_go 0 kp132 fun K hK => ?_
            | refine fun (K : List Oper → LS → Prop) (hK : KOk S 0 _ _ _ K) => ?_
            | ((first | refine runL_go ?_ | refine runQ_go ?_); simp (disch := (refine Om.mk ?_; omega)) only [go_sem])
            | (refine hK.nil ?_; clear hK K; simp only [go_sem])
            | (refine runG_fork rfl rfl rfl rfl rfl (fun h => ?_) (fun h => ?_) <;> (try simp (disch := (refine Om.mk ?_; omega)) only [go_sem] at h))
            | (refine hK.skip rfl (by simp only [dstOk, Nat.reduceLT]) ?_)
            | (refine sw_cond rfl (fun h => ?_) (fun h => ?_) <;> (try simp (disch := (refine Om.mk ?_; omega)) only [go_sem] at h))
            | (refine sw_exit rfl ?_)
            | (refine sw_loopEnd ?_)
            | ((first | refine sw_ret (ret0 ?_) | refine sw_ret ?_); simp (disch := (refine Om.mk ?_; omega)) only [go_sem, Try.results132])
            | (refine hK.fork rfl rfl rfl (fun h => ?_) (fun h => ?_) <;> (try simp (disch := (refine Om.mk ?_; omega)) only [go_sem] at h))
            | (with_reducible refine And.intro (by first | omega | (simp only [List.length_append, List.length_take, List.length_drop, List.length_cons, List.length_nil, List.length_map]; omega)) ?_)
            | ((with_reducible refine And.intro ?_ ?_); · first | (intro x hx; subst hx; rfl) | exact upR_mem fun _ _ => rfl | exact mapR_mem fun _ _ => rfl | (intro x; refine And.intro ?_ ?_ <;> (intros; subst_vars; rfl)))
            | fail
          all_goals exact ⟨(i + 1, u), (by (refine covers_mk0 rfl rfl ?_ ?_ ?_ ?_ <;> simp (disch := (refine Om.mk ?_; omega)) only [go_sem] <;> (try omega))), ⟨⟨by omega, hu⟩, h2⟩, by omega⟩
        · have hix : vIx (t.getD i default) < 48 := by unfold vIx; omega
          by_cases hsn : u.getD (vIx (t.getD i default)) default = true
          · rw [if_pos (.inr hsn)] at h2
            repeat' first
              | ((exfalso; omega))
              | ((exact absurd (by assumption) hn))
              | ((exfalso; have hx : ¬ u.getD (-1 - t.getD i default).toNat default = true := (by assumption); exact hx hsn))
              | ((exfalso; have hx : u.getD (-1 - t.getD i default).toNat default = false := (by assumption); exact absurd (hx.symm.trans hsn) (by decide)))
              | exact Bool.noConfusion h
              | refine sw_seq ?_
              | refine sw_block ?_
              | refine sw_skip ?_
              | refine sw_inBlock ?_
              | refine sw_go 0 kp132 fun K hK => ?_
              | refine fun (K : List Oper → LS → Prop) (hK : KOk S 0 _ _ _ K) => ?_
              | ((first | refine runL_go ?_ | refine runQ_go ?_); simp (disch := (refine Om.mk ?_; omega)) only [go_sem])
              | (refine hK.nil ?_; clear hK K; simp only [go_sem])
              | (refine runG_fork rfl rfl rfl rfl rfl (fun h => ?_) (fun h => ?_) <;> (try simp (disch := (refine Om.mk ?_; omega)) only [go_sem] at h))
              | (refine hK.skip rfl (by simp only [dstOk, Nat.reduceLT]) ?_)
              | (refine sw_cond rfl (fun h => ?_) (fun h => ?_) <;> (try simp (disch := (refine Om.mk ?_; omega)) only [go_sem] at h))
              | (refine sw_exit rfl ?_)
              | (refine sw_loopEnd ?_)
              | ((first | refine sw_ret (ret0 ?_) | refine sw_ret ?_); simp (disch := (refine Om.mk ?_; omega)) only [go_sem, Try.results132])
              | (refine hK.fork rfl rfl rfl (fun h => ?_) (fun h => ?_) <;> (try simp (disch := (refine Om.mk ?_; omega)) only [go_sem] at h))
              | (with_reducible refine And.intro (by first | omega | (simp only [List.length_append, List.length_take, List.length_drop, List.length_cons, List.length_nil, List.length_map]; omega)) ?_)
              | ((with_reducible refine And.intro ?_ ?_); · first | (intro x hx; subst hx; rfl) | exact upR_mem fun _ _ => rfl | exact mapR_mem fun _ _ => rfl | (intro x; refine And.intro ?_ ?_ <;> (intros; subst_vars; rfl)))
              | fail
            all_goals exact ⟨(i + 1, u), (by (refine covers_mk0 rfl rfl ?_ ?_ ?_ ?_ <;> simp (disch := (refine Om.mk ?_; omega)) only [go_sem] <;> (try omega))), ⟨⟨by omega, hu⟩, h2⟩, by omega⟩
          · rw [if_neg (by rintro (h | h); exact h0 h; exact hsn h)] at h2
            have hrd := uC_read rs hlb (i := (-1 - t.getD i default).toNat) hix
            by_cases hb : β.getD (vIx (t.getD i default)) default = []
            · rw [if_pos hb] at h2
              rw [show β.getD (-1 - t.getD i default).toNat default = [] from hb, bD_nil] at hrd
              repeat' first
                | ((exfalso; omega))
                | ((exact absurd (by assumption) hn))
                | ((exact absurd (by assumption) hsn))
                | ((rw [hrd]; simp only [go_sem]))
                | exact Bool.noConfusion h
                | refine sw_seq ?_
                | refine sw_block ?_
                | refine sw_skip ?_
                | refine sw_inBlock ?_
                | refine sw_go 0 kp132 fun K hK => ?_
                | refine fun (K : List Oper → LS → Prop) (hK : KOk S 0 _ _ _ K) => ?_
                | ((first | refine runL_go ?_ | refine runQ_go ?_); simp (disch := (refine Om.mk ?_; omega)) only [go_sem])
                | (refine hK.nil ?_; clear hK K; simp only [go_sem])
                | (refine runG_fork rfl rfl rfl rfl rfl (fun h => ?_) (fun h => ?_) <;> (try simp (disch := (refine Om.mk ?_; omega)) only [go_sem] at h))
                | (refine hK.skip rfl (by simp only [dstOk, Nat.reduceLT]) ?_)
                | (refine sw_cond rfl (fun h => ?_) (fun h => ?_) <;> (try simp (disch := (refine Om.mk ?_; omega)) only [go_sem] at h))
                | (refine sw_exit rfl ?_)
                | (refine sw_loopEnd ?_)
                | ((first | refine sw_ret (ret0 ?_) | refine sw_ret ?_); simp (disch := (refine Om.mk ?_; omega)) only [go_sem, Try.results132])
                | (refine hK.fork rfl rfl rfl (fun h => ?_) (fun h => ?_) <;> (try simp (disch := (refine Om.mk ?_; omega)) only [go_sem] at h))
                | (with_reducible refine And.intro (by first | omega | (simp only [List.length_append, List.length_take, List.length_drop, List.length_cons, List.length_nil, List.length_map]; omega)) ?_)
                | ((with_reducible refine And.intro ?_ ?_); · first | (intro x hx; subst hx; rfl) | exact upR_mem fun _ _ => rfl | exact mapR_mem fun _ _ => rfl | (intro x; refine And.intro ?_ ?_ <;> (intros; subst_vars; rfl)))
                | fail
              all_goals exact ⟨(i + 1, u.set (-1 - t.getD i default).toNat true), (by (refine covers_mk0 rfl rfl ?_ ?_ ?_ ?_ <;> simp (disch := (refine Om.mk ?_; omega)) only [go_sem] <;> (try omega))), ⟨⟨by omega, by rw [List.length_set]; exact hu⟩, h2⟩, by omega⟩
            · rw [if_neg hb] at h2
              rw [show bD (β.getD (-1 - t.getD i default).toNat default) = _ from bD_some hb] at hrd
              have hb2 : (β.getD (-1 - t.getD i default).toNat default).map (D.int .i64) ≠ [] := fun e => hb (List.map_eq_nil_iff.1 e)
              have hXb := hβ.get hb
              obtain ⟨q1, hq1⟩ : ∃ q1, occM β n f (β.getD (vIx (t.getD i default)) default) (u.set (vIx (t.getD i default)) true) = some q1 := by
                cases hx : occM β n f (β.getD (vIx (t.getD i default)) default) (u.set (vIx (t.getD i default)) true) with
                | none => rw [hx] at h2; cases h2
                | some q1 => exact ⟨q1, rfl⟩
              have cO := ih (β.getD (-1 - t.getD i default).toNat default) (u.set (-1 - t.getD i default).toNat true) _ hq1 hXb (by rw [List.length_set]; exact hu)
              rw [hq1] at h2
              have hl1 := occM_len _ _ _ _ hq1
              rw [List.length_set, hu] at hl1
              obtain ⟨b1, s1⟩ := q1
              dsimp only at cO hl1
              cases b1
              · simp only at h2
                repeat' first
                  | ((refine hK.callB rfl rfl rfl (cO) ⟨⟨by simp only [Nat.reduceLT], (by simp [-List.map_set, LS.getBox, Lg.look]), (by simp [-List.map_set, Lg.look]), (by simp), (by simp)⟩, ⟨by simp [-List.map_set, D.ids, D.idsL, idsL_bool, idsL_bD], by simp [-List.map_set, D.ids, D.idsL, idsL_bool, idsL_bD], by simp [-List.map_set, D.tks, D.tksL, tksU_ints, tksL_bool, tksL_bD], by simp [-List.map_set, D.tks, D.tksL, tksU_ints, tksL_bool, tksL_bD], by simp⟩, (by simp [-List.map_set, LS.clean, D.puOk, D.pu, D.pu1, D.tks, D.tksL, tksU_ints, tksL_bool, tksL_bD, puOk_intsU, puOk_bool, puOk_bD, inTok])⟩ ?_; simp (disch := (refine Om.mk ?_; omega)) only [go_sem]))
                  | ((exfalso; omega))
                  | ((exact absurd (by assumption) hn))
                  | ((exact absurd (by assumption) hsn))
                  | ((rw [hrd]; simp only [go_sem]))
                  | ((refine ⟨hb2, ?_⟩))
                  | exact Bool.noConfusion h
                  | refine sw_seq ?_
                  | refine sw_block ?_
                  | refine sw_skip ?_
                  | refine sw_inBlock ?_
                  | refine sw_go 0 kp132 fun K hK => ?_
                  | refine fun (K : List Oper → LS → Prop) (hK : KOk S 0 _ _ _ K) => ?_
                  | ((first | refine runL_go ?_ | refine runQ_go ?_); simp (disch := (refine Om.mk ?_; omega)) only [go_sem])
                  | (refine hK.nil ?_; clear hK K; simp only [go_sem])
                  | (refine runG_fork rfl rfl rfl rfl rfl (fun h => ?_) (fun h => ?_) <;> (try simp (disch := (refine Om.mk ?_; omega)) only [go_sem] at h))
                  | (refine hK.skip rfl (by simp only [dstOk, Nat.reduceLT]) ?_)
                  | (refine sw_cond rfl (fun h => ?_) (fun h => ?_) <;> (try simp (disch := (refine Om.mk ?_; omega)) only [go_sem] at h))
                  | (refine sw_exit rfl ?_)
                  | (refine sw_loopEnd ?_)
                  | ((first | refine sw_ret (ret0 ?_) | refine sw_ret ?_); simp (disch := (refine Om.mk ?_; omega)) only [go_sem, Try.results132])
                  | (refine hK.fork rfl rfl rfl (fun h => ?_) (fun h => ?_) <;> (try simp (disch := (refine Om.mk ?_; omega)) only [go_sem] at h))
                  | (with_reducible refine And.intro (by first | omega | (simp only [List.length_append, List.length_take, List.length_drop, List.length_cons, List.length_nil, List.length_map]; omega)) ?_)
                  | ((with_reducible refine And.intro ?_ ?_); · first | (intro x hx; subst hx; rfl) | exact upR_mem fun _ _ => rfl | exact mapR_mem fun _ _ => rfl | (intro x; refine And.intro ?_ ?_ <;> (intros; subst_vars; rfl)))
                  | fail
                all_goals exact ⟨(i + 1, s1), (by (refine covers_mk0 rfl rfl ?_ ?_ ?_ ?_ <;> simp (disch := (refine Om.mk ?_; omega)) only [go_sem] <;> (try omega))), ⟨⟨by omega, hl1⟩, h2⟩, by omega⟩
              · simp only at h2
                obtain rfl := Option.some.inj h2
                repeat' first
                  | ((refine hK.callB rfl rfl rfl (cO) ⟨⟨by simp only [Nat.reduceLT], (by simp [-List.map_set, LS.getBox, Lg.look]), (by simp [-List.map_set, Lg.look]), (by simp), (by simp)⟩, ⟨by simp [-List.map_set, D.ids, D.idsL, idsL_bool, idsL_bD], by simp [-List.map_set, D.ids, D.idsL, idsL_bool, idsL_bD], by simp [-List.map_set, D.tks, D.tksL, tksU_ints, tksL_bool, tksL_bD], by simp [-List.map_set, D.tks, D.tksL, tksU_ints, tksL_bool, tksL_bD], by simp⟩, (by simp [-List.map_set, LS.clean, D.puOk, D.pu, D.pu1, D.tks, D.tksL, tksU_ints, tksL_bool, tksL_bD, puOk_intsU, puOk_bool, puOk_bD, inTok])⟩ ?_; simp (disch := (refine Om.mk ?_; omega)) only [go_sem]))
                  | ((exfalso; omega))
                  | ((exact absurd (by assumption) hn))
                  | ((exact absurd (by assumption) hsn))
                  | ((rw [hrd]; simp only [go_sem]))
                  | ((refine ⟨hb2, ?_⟩))
                  | exact Bool.noConfusion h
                  | refine sw_seq ?_
                  | refine sw_block ?_
                  | refine sw_skip ?_
                  | refine sw_inBlock ?_
                  | refine sw_go 0 kp132 fun K hK => ?_
                  | refine fun (K : List Oper → LS → Prop) (hK : KOk S 0 _ _ _ K) => ?_
                  | ((first | refine runL_go ?_ | refine runQ_go ?_); simp (disch := (refine Om.mk ?_; omega)) only [go_sem])
                  | (refine hK.nil ?_; clear hK K; simp only [go_sem])
                  | (refine runG_fork rfl rfl rfl rfl rfl (fun h => ?_) (fun h => ?_) <;> (try simp (disch := (refine Om.mk ?_; omega)) only [go_sem] at h))
                  | (refine hK.skip rfl (by simp only [dstOk, Nat.reduceLT]) ?_)
                  | (refine sw_cond rfl (fun h => ?_) (fun h => ?_) <;> (try simp (disch := (refine Om.mk ?_; omega)) only [go_sem] at h))
                  | (refine sw_exit rfl ?_)
                  | (refine sw_loopEnd ?_)
                  | ((first | refine sw_ret (ret0 ?_) | refine sw_ret ?_); simp (disch := (refine Om.mk ?_; omega)) only [go_sem, Try.results132])
                  | (refine hK.fork rfl rfl rfl (fun h => ?_) (fun h => ?_) <;> (try simp (disch := (refine Om.mk ?_; omega)) only [go_sem] at h))
                  | (with_reducible refine And.intro (by first | omega | (simp only [List.length_append, List.length_take, List.length_drop, List.length_cons, List.length_nil, List.length_map]; omega)) ?_)
                  | ((with_reducible refine And.intro ?_ ?_); · first | (intro x hx; subst hx; rfl) | exact upR_mem fun _ _ => rfl | exact mapR_mem fun _ _ => rfl | (intro x; refine And.intro ?_ ?_ <;> (intros; subst_vars; rfl)))
                  | fail
                all_goals first | rfl | exact ⟨rfl, rfl⟩ | trace_state
    · rw [List.drop_of_length_le (by omega)] at h2
      obtain rfl := Option.some.inj h2
      repeat' first
        | ((exfalso; omega))
        | exact Bool.noConfusion h
        | refine sw_seq ?_
        | refine sw_block ?_
        | refine sw_skip ?_
        | refine sw_inBlock ?_
        | refine sw_go 0 kp132 fun K hK => ?_
        | refine fun (K : List Oper → LS → Prop) (hK : KOk S 0 _ _ _ K) => ?_
        | ((first | refine runL_go ?_ | refine runQ_go ?_); simp (disch := (refine Om.mk ?_; omega)) only [go_sem])
        | (refine hK.nil ?_; clear hK K; simp only [go_sem])
        | (refine runG_fork rfl rfl rfl rfl rfl (fun h => ?_) (fun h => ?_) <;> (try simp (disch := (refine Om.mk ?_; omega)) only [go_sem] at h))
        | (refine hK.skip rfl (by simp only [dstOk, Nat.reduceLT]) ?_)
        | (refine sw_cond rfl (fun h => ?_) (fun h => ?_) <;> (try simp (disch := (refine Om.mk ?_; omega)) only [go_sem] at h))
        | (refine sw_exit rfl ?_)
        | (refine sw_loopEnd ?_)
        | ((first | refine sw_ret (ret0 ?_) | refine sw_ret ?_); simp (disch := (refine Om.mk ?_; omega)) only [go_sem, Try.results132])
        | (refine hK.fork rfl rfl rfl (fun h => ?_) (fun h => ?_) <;> (try simp (disch := (refine Om.mk ?_; omega)) only [go_sem] at h))
        | (with_reducible refine And.intro (by first | omega | (simp only [List.length_append, List.length_take, List.length_drop, List.length_cons, List.length_nil, List.length_map]; omega)) ?_)
        | ((with_reducible refine And.intro ?_ ?_); · first | (intro x hx; subst hx; rfl) | exact upR_mem fun _ _ => rfl | exact mapR_mem fun _ _ => rfl | (intro x; refine And.intro ?_ ?_ <;> (intros; subst_vars; rfl)))
        | fail
      all_goals first | rfl | exact ⟨rfl, rfl⟩ | trace_state
    · exact ⟨⟨by omega, hs⟩, hq⟩
end Go.Proofs.Ytlcdahaihlflaaa
