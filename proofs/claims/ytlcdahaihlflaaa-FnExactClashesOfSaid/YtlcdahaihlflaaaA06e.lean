/-
  Systems: SystemOk of both sides; the equations of a system's rules.
-/
import Derived.Test.YtlcdahaihlflaaaACl
import Derived.Test.YtlcdahaihlflaaaA06s
import Derived.Test.YtlcdahaihlflaaaA01b
import Derived.Test.YtlcdahaihlflaaaLTy
namespace Go.Proofs.Ytlcdahaihlflaaa
open Go Go.Lg
set_option linter.unusedSimpArgs false
set_option linter.unusedVariables false
set_option maxHeartbeats 4000000
attribute [local irreducible] SW runL runQ runG runQG FC
end Go.Proofs.Ytlcdahaihlflaaa
