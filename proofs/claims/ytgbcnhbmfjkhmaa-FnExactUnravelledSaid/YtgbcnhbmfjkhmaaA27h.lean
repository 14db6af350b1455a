/-
  HeldIn: the plain law (sorted lists of variables). The contracts are still to be written.
-/
import Derived.Test.YtgbcnhbmfjkhmaaA27c
import Derived.Test.YtgbcnhbmfjkhmaaA01s
namespace Go.Proofs.Ytgbcnhbmfjkhmaa
open Go Go.Lg
theorem sort_withL : ∀ (t vars : List Int), SortP vars → SortP (withL vars t)
  | [], _, h => h
  | x :: t, vars, h => by
    unfold withL
    refine sort_withL t _ ?_
    split
    · exact sort_intoL _ _ h
    · exact h
/-- Sorted variables that both hold. -/
theorem held_ext (K N A B : List Int) (hs : SortP K) (hK : ∀ i, i ∈ K ↔ ∃ x ∈ A, x < 0 ∧ i = -1 - x) (hN : ∀ i, i ∈ N ↔ ∃ x ∈ B, x < 0 ∧ i = -1 - x) (hA : ∀ x ∈ A, -24 ≤ x) :
    K.filter (fun i => decide (i ∈ N)) = ((upTo 24).filter fun i => decide (-1 - i ∈ A)).filter fun i => decide (-1 - i ∈ B) := by
  refine sort_ext (hs.filter _) (((sort_upTo 24).filter _).filter _) fun i => ?_
  simp only [List.mem_filter, decide_eq_true_eq, mem_upTo]
  rw [hK, hN]
  constructor
  · rintro ⟨⟨x, hx, hx0, rfl⟩, y, hy, _, hxy⟩
    have := hA x hx
    refine ⟨⟨⟨by omega, by omega⟩, ?_⟩, ?_⟩
    · rw [show -1 - (-1 - x) = x by omega]; exact hx
    · rw [show -1 - (-1 - x) = y by omega]; exact hy
  · rintro ⟨⟨⟨h1, h2⟩, h3⟩, h4⟩
    exact ⟨⟨_, h3, by omega, by omega⟩, _, h4, by omega, by omega⟩
end Go.Proofs.Ytgbcnhbmfjkhmaa
