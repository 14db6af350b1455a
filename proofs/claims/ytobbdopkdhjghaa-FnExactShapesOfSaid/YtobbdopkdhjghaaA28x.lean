/-
  Sorted forms modulo associativity and commutativity: the sort is the library's.
-/
import Derived.Test.YtobbdopkdhjghaaA28l
import Derived.Test.YtobbdopkdhjghaaSrt
import Derived.Test.YtobbdopkdhjghaaLgK9
namespace Go.Proofs.Ytobbdopkdhjghaa
open Go Go.Lg
theorem sortK : SortKit S.P 98 99 := sortKit_of Try.sortT ⟨_, Try.func99, by kernel_rfl, rfl⟩
end Go.Proofs.Ytobbdopkdhjghaa
