/-
  Sorted lists of numbers.
-/
import Derived.Test.YtgbcnhbmfjkhmaaA01b
namespace Go.Proofs.Ytgbcnhbmfjkhmaa
open Go Go.Lg
def upTo (n : Nat) : List Int := (List.range n).map fun (i : Nat) => (i : Int)
theorem mem_upTo (n : Nat) (x : Int) : x ∈ upTo n ↔ 0 ≤ x ∧ x < n := by
  unfold upTo
  rw [List.mem_map]
  constructor
  · rintro ⟨i, hi, rfl⟩
    have := List.mem_range.1 hi
    omega
  · intro h
    exact ⟨x.toNat, List.mem_range.2 (by omega), by omega⟩
end Go.Proofs.Ytgbcnhbmfjkhmaa
