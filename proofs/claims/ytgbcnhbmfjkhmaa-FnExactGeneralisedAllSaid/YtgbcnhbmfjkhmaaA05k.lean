/-
  What terms have in common is a term: the plain law.
-/
import Derived.Test.YtgbcnhbmfjkhmaaA05p
namespace Go.Proofs.Ytgbcnhbmfjkhmaa
open Go Go.Lg
theorem leafG_fl {rs a b : List Int} {P : Prs} (h : (leafG a b P).2.length ≤ 24) : Fl rs 1 (leafG a b P).1 := by
  have key : ∀ k : Nat, k < 24 → Fl rs 1 [-1 - (k : Int)] := fun k hk => by
    have h0 : arS rs (-1 - (k : Int)) = 0 := by unfold arS; rw [if_pos (by omega)]
    refine .cons (k := 0) (by omega) ?_
    rw [h0]; exact .nil
  unfold leafG at h ⊢
  split at h
  · rename_i h1; rw [if_pos h1]; exact key _ (by simp only at h; omega)
  · rename_i h1; rw [if_neg h1]; exact key _ (by simp only [List.length_append, List.length_cons, List.length_nil] at h; omega)
theorem genM_fl {rs : List Int} : ∀ (f : Nat) (a b : List Int) (P : Prs), TermOkP rs a → TermOkP rs b → a.length ≤ f → (genM rs f a b P).2.length ≤ 24 → Fl rs 1 (genM rs f a b P).1
  | 0, a, b, P, ha, hb, hf, _ => by have := ha.2.1; omega
  | f + 1, a, b, P, ha, hb, hf, h => by
    have hl := ha.2.1
    unfold genM at h ⊢
    split at h
    · rename_i hs
      rw [if_pos hs]
      have hlen := genA_len (f := f) (P := P) ha hb hs
      have hlo := ha.low (show 0 < a.length by omega)
      have key : ∀ j ≤ (arS rs (a.getD 0 default)).toNat, (genA (genM rs f) rs a b P j).2.length ≤ 24 → ∃ l, (genA (genM rs f) rs a b P j).1 = a.getD 0 default :: l ∧ Fl rs j l := by
        intro j
        induction j with
        | zero => intro _ _; exact ⟨[], rfl, .nil⟩
        | succ j ih =>
          intro hj h24
          have h1 := nthB_lt ha (show 0 < a.length by omega) (show j < _ by omega)
          have hbj : nthB rs b 1 j < b.length := (nthB_lt hb (by have := hb.2.1; omega) (by rw [← hs.1]; omega)).2
          have h2 := subS_nth ha (show 0 < a.length by omega) (show j < _ by omega)
          have h3 := nthB_le ha (show 0 < a.length by omega) (show j + 1 ≤ (arS rs (a.getD 0 default)).toNat by omega)
          simp only [Nat.zero_add] at h1 h2 h3
          have o1 := subS_ok ha h1.2
          have o2 := subS_ok hb hbj
          have g := genM_len f _ _ (genA (genM rs f) rs a b P j).2 o1 o2
          simp only [genA] at h24
          obtain ⟨l, e, hfl⟩ := ih (by omega) (by omega)
          have r := genM_fl f _ _ (genA (genM rs f) rs a b P j).2 o1 o2 (by omega) h24
          refine ⟨l ++ _, ?_, hfl.app r⟩
          simp only [genA]
          rw [e]
          rfl
      obtain ⟨l, e, hfl⟩ := key _ (Nat.le_refl _) h
      rw [e]
      exact .cons (k := 0) hlo.2.1 (by rw [Nat.zero_add]; exact hfl)
    · rename_i hs
      rw [if_neg hs]
      exact leafG_fl h
end Go.Proofs.Ytgbcnhbmfjkhmaa
