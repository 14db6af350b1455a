/-
  Basic ground terms: how many marks the results bear.
-/
import Derived.Test.YtldlochhiiogbaaG25b
import Derived.Test.YtldlochhiiogbaaG25x
namespace Go.Proofs.Ytldlochhiiogbaa
open Go Go.Lg
theorem basR_mc (x : SystemT) (n : Int) : mcInt64SS (basR x n) ≤ 100000 := by
  rcases Classical.em (SystemOkP x ∧ GrP x.sig n) with h | h
  · rw [basR_yes h]
    have h1 := @grR_len x.sig n
    refine mcG (Nat.le_trans (basT_len _ _ _) h1.1) fun t ht => ?_
    unfold basT basJ at ht
    obtain ⟨j, hj, rfl⟩ := List.mem_map.1 ht
    have hlt := List.mem_range.1 (List.mem_filter.1 hj).1
    exact (h1.2 _ (getD_memG hlt)).2
  · rw [basR_no h]; decide
end Go.Proofs.Ytldlochhiiogbaa
