/-
  Sorted lists of numbers.
-/
import Derived.Test.YtfokjjlbdaabaaaA01b
namespace Go.Proofs.Ytfokjjlbdaabaaa
open Go Go.Lg
def SortP (l : List Int) : Prop := l.Pairwise (· < ·)
theorem sort_intoL (n : Int) : ∀ xs : List Int, SortP xs → SortP (intoL xs n)
  | [], _ => by simp [SortP, intoL]
  | x :: r, h => by
    obtain ⟨h1, h2⟩ := List.pairwise_cons.1 h
    unfold intoL
    split
    · rename_i hlt
      refine List.pairwise_cons.2 ⟨fun y hy => ?_, sort_intoL n r h2⟩
      rcases (mem_intoL y r n).1 hy with hy | rfl
      · exact h1 y hy
      · exact hlt
    · split
      · exact h
      · rename_i h3 h4
        refine List.pairwise_cons.2 ⟨fun y hy => ?_, h⟩
        rcases List.mem_cons.1 hy with rfl | hy
        · omega
        · have := h1 y hy; omega
theorem sort_ext : ∀ {a b : List Int}, SortP a → SortP b → (∀ x, x ∈ a ↔ x ∈ b) → a = b
  | [], [], _, _, _ => rfl
  | [], y :: b, _, _, h => by have := (h y).2 List.mem_cons_self; cases this
  | x :: a, [], _, _, h => by have := (h x).1 List.mem_cons_self; cases this
  | x :: a, y :: b, ha, hb, h => by
    obtain ⟨a1, a2⟩ := List.pairwise_cons.1 ha
    obtain ⟨b1, b2⟩ := List.pairwise_cons.1 hb
    have hxy : x = y := by
      rcases List.mem_cons.1 ((h x).1 List.mem_cons_self) with e | e
      · exact e
      · rcases List.mem_cons.1 ((h y).2 List.mem_cons_self) with e' | e'
        · exact e'.symm
        · have := a1 y e'; have := b1 x e; omega
    subst hxy
    congr 1
    refine sort_ext a2 b2 fun z => ?_
    constructor
    · intro hz
      rcases List.mem_cons.1 ((h z).1 (List.mem_cons_of_mem _ hz)) with e | e
      · have := a1 z hz; omega
      · exact e
    · intro hz
      rcases List.mem_cons.1 ((h z).2 (List.mem_cons_of_mem _ hz)) with e | e
      · have := b1 z hz; omega
      · exact e
def upTo (n : Nat) : List Int := (List.range n).map fun (i : Nat) => (i : Int)
theorem sort_upTo (n : Nat) : SortP (upTo n) := by
  unfold SortP upTo
  rw [List.pairwise_map]
  exact List.pairwise_lt_range.imp fun h => by omega
theorem mem_upTo (n : Nat) (x : Int) : x ∈ upTo n ↔ 0 ≤ x ∧ x < n := by
  unfold upTo
  rw [List.mem_map]
  constructor
  · rintro ⟨i, hi, rfl⟩
    have := List.mem_range.1 hi
    omega
  · intro h
    exact ⟨x.toNat, List.mem_range.2 (by omega), by omega⟩
theorem upTo_succ (n : Nat) : upTo (n + 1) = upTo n ++ [(n : Int)] := by simp [upTo, List.range_succ]
end Go.Proofs.Ytfokjjlbdaabaaa
