/-
  Contracts of the chapter on tree automata: valid and deterministic ones.
-/
import Derived.Test.YtldlochhiiogbaaSet
import Derived.Test.YtldlochhiiogbaaA29
namespace Go.Proofs.Ytldlochhiiogbaa
open Go Go.Lg
set_option linter.unusedSimpArgs false
set_option maxHeartbeats 4000000
attribute [local irreducible] SW runL runQ runG runQG FC Ret1
def SetAt (xs : List Int) (n : Int) (j : Nat) : Prop := (0 ≤ xs.getD j default ∧ xs.getD j default ≤ n - 1) ∧ (0 < j → xs.getD (j - 1) default < xs.getD j default)
def SetP (xs : List Int) (n : Int) : Prop := ∀ j < xs.length, SetAt xs n j
theorem SetP.ge {xs : List Int} {n : Int} (h : SetP xs n) : ∀ j < xs.length, (j : Int) ≤ xs.getD j default
  | 0, h0 => by have := (h 0 h0).1; omega
  | j + 1, h0 => by
    have h1 := SetP.ge h j (by omega)
    have h2 := (h (j + 1) h0).2 (by omega)
    simp only [Nat.add_sub_cancel] at h2
    omega
theorem SetP.len {xs : List Int} {n : Int} (h : SetP xs n) (hn : 0 ≤ n) : (xs.length : Int) ≤ n := by
  by_cases h0 : xs.length = 0
  · omega
  · have h1 := h.ge (xs.length - 1) (by omega)
    have h2 := (h (xs.length - 1) (by omega)).1
    omega
def cmpI (a b : Int) : Int := if a < b then -1 else if b < a then 1 else 0
def cmpL : List Int → List Int → Int
  | [], [] => 0
  | [], _ :: _ => -1
  | _ :: _, [] => 1
  | x :: xs, y :: ys => if cmpI x y ≠ 0 then cmpI x y else cmpL xs ys
end Go.Proofs.Ytldlochhiiogbaa
