/-
  RulesOf of both sides.
-/
import Derived.Test.YtlcdahaihlflaaaA06e
import Derived.Test.YtlcdahaihlflaaaA02
namespace Go.Proofs.Ytlcdahaihlflaaa
open Go Go.Lg
set_option linter.unusedSimpArgs false
set_option linter.unusedVariables false
set_option maxHeartbeats 4000000
attribute [local irreducible] SW runL runQ runG runQG FC
theorem len_flat : ∀ (xs : List (List Int)), (∀ q ∈ xs, 1 ≤ q.length) → xs.length ≤ xs.flatten.length
  | [], _ => Nat.le_refl _
  | x :: xs, h => by
    have h1 := h x List.mem_cons_self
    have h2 := len_flat xs fun q hq => h q (List.mem_cons_of_mem _ hq)
    simp only [List.flatten_cons, List.length_append, List.length_cons]
    omega
theorem front_len {f : FrontT} (h : FrontOkP f) (j : Nat) (hj : j < f.lines.length) : (∀ q ∈ (f.lines.getD j default).pats, 1 ≤ q.length ∧ q.length ≤ 60) ∧ (f.lines.getD j default).pats.length ≤ 60 ∧ (leftL (f.lines.getD j default)).length ≤ 60 ∧ (1 ≤ (f.lines.getD j default).body.length ∧ (f.lines.getD j default).body.length ≤ 60) := by
  obtain ⟨_, h1, ⟨h2, _⟩, h3⟩ := h.2 j hj
  have ht : ∀ q ∈ (f.lines.getD j default).pats, 1 ≤ q.length ∧ q.length ≤ 60 := (forall_getD (P := fun (q : List Int) => 1 ≤ q.length ∧ q.length ≤ 60)).1 fun k hk => (h1 k hk).1.2.1
  have hf := len_flat _ fun q hq => (ht q hq).1
  have hl := h2.2.1.2
  refine ⟨ht, ?_, hl, h3.1.2.1.2.1⟩
  simp only [leftL, List.length_cons] at hl
  omega
end Go.Proofs.Ytlcdahaihlflaaa
