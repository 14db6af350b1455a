/-
  Shapes: the sort is the library's.
-/
import Derived.Test.YtobbdopkdhjghaaA24i
import Derived.Test.YtobbdopkdhjghaaA28x
