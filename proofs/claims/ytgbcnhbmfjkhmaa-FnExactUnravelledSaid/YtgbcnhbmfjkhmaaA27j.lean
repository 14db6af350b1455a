/-
  HeldIn, both sides whole.
-/
import Derived.Test.YtgbcnhbmfjkhmaaA27k
import Derived.Test.YtgbcnhbmfjkhmaaA27c
namespace Go.Proofs.Ytgbcnhbmfjkhmaa
open Go Go.Lg
set_option linter.unusedSimpArgs false
set_option linter.unusedVariables false
set_option maxHeartbeats 4000000
attribute [local irreducible] SW runL runQ runG runQG FC Ret1 toF
theorem heldP_of {cs : CSystemT} (h : CSystemOkP cs) {i k : Nat} (hi : i < cs.rules.length) (hk : k < (cs.rules.getD i default).conds.length) : HeldP (cs.rules.getD i default) k := by
  have h1 := h.2 i hi
  exact ⟨hk, h1.1.2.2.2, ⟨h1.1.1.2.1.2, h1.1.1.ge⟩, ⟨h1.1.2.1.2.1.2, h1.1.2.1.ge⟩, fun j hj => ⟨⟨(h1.2.1 j hj).1.1.2.1.2, (h1.2.1 j hj).1.1.ge⟩, (h1.2.1 j hj).1.2.2.1.2, (h1.2.1 j hj).1.2.ge⟩⟩
end Go.Proofs.Ytgbcnhbmfjkhmaa
