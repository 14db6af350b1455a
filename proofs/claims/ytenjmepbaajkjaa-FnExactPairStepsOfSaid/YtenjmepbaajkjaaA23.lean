/-
  Contracts of the chapter on tree automata: valid and deterministic ones.
-/
import Derived.Test.YtenjmepbaajkjaaSet
import Derived.Test.YtenjmepbaajkjaaA29
namespace Go.Proofs.Ytenjmepbaajkjaa
open Go Go.Lg
set_option linter.unusedSimpArgs false
set_option maxHeartbeats 4000000
attribute [local irreducible] SW runL runQ runG runQG FC Ret1
def SetAt (xs : List Int) (n : Int) (j : Nat) : Prop := (0 ≤ xs.getD j default ∧ xs.getD j default ≤ n - 1) ∧ (0 < j → xs.getD (j - 1) default < xs.getD j default)
def SetP (xs : List Int) (n : Int) : Prop := ∀ j < xs.length, SetAt xs n j
theorem SetP.ge {xs : List Int} {n : Int} (h : SetP xs n) : ∀ j < xs.length, (j : Int) ≤ xs.getD j default
  | 0, h0 => by have := (h 0 h0).1; omega
  | j + 1, h0 => by
    have h1 := SetP.ge h j (by omega)
    have h2 := (h (j + 1) h0).2 (by omega)
    simp only [Nat.add_sub_cancel] at h2
    omega
theorem SetP.len {xs : List Int} {n : Int} (h : SetP xs n) (hn : 0 ≤ n) : (xs.length : Int) ≤ n := by
  by_cases h0 : xs.length = 0
  · omega
  · have h1 := h.ge (xs.length - 1) (by omega)
    have h2 := (h (xs.length - 1) (by omega)).1
    omega
def InP (n : Int) (xs : List Int) : Prop := ∀ j < xs.length, 0 ≤ xs.getD j default ∧ xs.getD j default ≤ n - 1
def TransOkP (rs : List Int) (n : Int) (r : TransT) : Prop := (0 ≤ r.sym ∧ r.sym ≤ rs.length - 1) ∧ (r.args.length : Int) = rs.getD r.sym.toNat default ∧ (0 ≤ r.to ∧ r.to ≤ n - 1) ∧ InP n r.args
def AutoOkP (rs : List Int) (a : AutoT) : Prop := (SigOkP rs ∧ (1 ≤ a.states ∧ a.states ≤ 16) ∧ a.rules.length ≤ 300 ∧ SetP a.final a.states) ∧
  ∀ i < a.rules.length, TransOkP rs a.states (a.rules.getD i default) ∧ ∀ k < i, ¬ a.rules.getD k default = a.rules.getD i default
end Go.Proofs.Ytenjmepbaajkjaa
