/-
  Sorted lists of numbers.
-/
import Derived.Test.YtpfeecgbiikpaaaGreatA01b
namespace Go.Proofs.YtpfeecgbiikpaaaGreat
open Go Go.Lg
end Go.Proofs.YtpfeecgbiikpaaaGreat
