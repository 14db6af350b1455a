/-
  Ground terms: the sort is the library's; how many marks the results bear.
-/
import Derived.Test.YtldlochhiiogbaaG25j
import Derived.Test.YtldlochhiiogbaaSrt
import Derived.Test.YtldlochhiiogbaaLgK9
namespace Go.Proofs.Ytldlochhiiogbaa
open Go Go.Lg
theorem sortK : SortKit S.P 30 31 := sortKit_of Try.sortT ⟨_, Try.func31, by kernel_rfl, rfl⟩
theorem sumG_le : ∀ {xs : List (List Int)}, (∀ x ∈ xs, x.length ≤ 60) → (xs.map fun x => x.length + 0).sum ≤ 60 * xs.length
  | [], _ => by simp
  | x :: r, h => by
    have h1 := h x List.mem_cons_self
    have := sumG_le (xs := r) fun y hy => h y (List.mem_cons_of_mem _ hy)
    simp only [List.map_cons, List.sum_cons, List.length_cons]; omega
theorem mcG {xs : List (List Int)} (h1 : xs.length ≤ 200) (h2 : ∀ x ∈ xs, x.length ≤ 60) : mcInt64SS xs ≤ 100000 := by
  have := sumG_le h2
  unfold mcInt64SS mcInt64S
  omega
end Go.Proofs.Ytldlochhiiogbaa
