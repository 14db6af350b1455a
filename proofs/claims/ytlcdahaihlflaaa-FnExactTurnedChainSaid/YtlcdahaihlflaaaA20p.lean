/-
  Variants of equations: matching both ways is the same as having one numbering of the variables.
-/
import Derived.Test.YtlcdahaihlflaaaA04p
namespace Go.Proofs.Ytlcdahaihlflaaa
open Go Go.Lg
set_option linter.unusedSimpArgs false
set_option linter.unusedVariables false
theorem drop_sub {rs t : List Int} (ht : TermOkP rs t) {a : Nat} (ha : a < t.length) : Fl rs 1 (subS rs t a) ∧ t.drop a = subS rs t a ++ t.drop (a + (subS rs t a).length) ∧ a + (subS rs t a).length ≤ t.length := by
  obtain ⟨p, u, r, rfl, rfl, hu⟩ := ht.at ha
  rw [subS_app hu]
  refine ⟨hu, ?_, by simp only [List.length_append]; omega⟩
  rw [List.drop_left, ← List.append_assoc p u r, List.drop_left' (by simp)]
def G0 : Bnd := List.replicate 24 []
/-! One numbering. -/
end Go.Proofs.Ytlcdahaihlflaaa
