/-
  EitherAuto, both sides.
-/
import Derived.Test.YtenjmepbaajkjaaA23c
import Derived.Test.YtenjmepbaajkjaaA06e
import Derived.Test.YtenjmepbaajkjaaA27i
import Derived.Test.YtenjmepbaajkjaaLTy
namespace Go.Proofs.Ytenjmepbaajkjaa
open Go Go.Lg
set_option linter.unusedSimpArgs false
set_option linter.unusedVariables false
set_option maxHeartbeats 4000000
attribute [local irreducible] SW runL runQ runG runQG FC Ret1 toF redoL
attribute [local go_sem] List.filter_cons
/-- what the steps ask of a valid automaton -/
structure AutoB (a : AutoT) : Prop where
  st : 1 ≤ a.states ∧ a.states ≤ 16
  ru : a.rules.length ≤ 300
  fi : a.final.length ≤ 16
  fr : ∀ j < a.final.length, 0 ≤ a.final.getD j default ∧ a.final.getD j default ≤ 15
  to : ∀ i < a.rules.length, 0 ≤ (a.rules.getD i default).to ∧ (a.rules.getD i default).to ≤ 15
  ar : ∀ i < a.rules.length, (a.rules.getD i default).args.length ≤ 3
  aq : ∀ i < a.rules.length, ∀ j < (a.rules.getD i default).args.length, 0 ≤ (a.rules.getD i default).args.getD j default ∧ (a.rules.getD i default).args.getD j default ≤ 15
theorem AutoOkP.b {rs : List Int} {a : AutoT} (h : AutoOkP rs a) : AutoB a := by
  obtain ⟨⟨hs, hst, hru, hf⟩, hall⟩ := h
  refine ⟨hst, hru, ?_, fun j hj => ?_, fun i hi => ?_, fun i hi => ?_, fun i hi j hj => ?_⟩
  · have := hf.len (by omega); omega
  · have := (hf j hj).1; omega
  · have := (hall i hi).1.2.2.1; omega
  · have h1 := (hall i hi).1
    have h2 := hs.2 (a.rules.getD i default).sym.toNat (by have := h1.1; omega)
    have := h1.2.1; omega
  · have := (hall i hi).1.2.2.2 j hj; omega
theorem cloneLE_fc (p : List Nat) (hp : p ≠ []) (tk : Tk) (xs : List Int) (hl : xs.length ≤ 17592186044416) : FC S 116 [] [] [] [.sl tk (xs.map (.int .i64))] (Int64SL p xs) [] [] := by
  by_cases h : xs = []
  · subst h
    exact (cloneH_fc tk [] hl).weak .emp (by simp) (by simp)
  · exact cloneL_fc p hp tk xs h hl
end Go.Proofs.Ytenjmepbaajkjaa
