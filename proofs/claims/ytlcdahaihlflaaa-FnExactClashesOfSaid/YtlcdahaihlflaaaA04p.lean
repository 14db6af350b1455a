/-
  Matching on flat terms: the program's way along the lists, the reference's way down the trees, and what both say.
-/
import Derived.Test.YtlcdahaihlflaaaA03t
namespace Go.Proofs.Ytlcdahaihlflaaa
open Go Go.Lg
set_option linter.unusedSimpArgs false
set_option linter.unusedVariables false
abbrev Bnd := List (List Int)
def vx (n : Int) : Nat := (-1 - n).toNat
/-- along the pattern -/
def linM (rs t : List Int) : List Int → Nat → Bnd → Bnd × Bool
  | [], _, g => (g, true)
  | n :: p, a, g => if t.length ≤ a then (g, false) else if 0 ≤ n then (if t.getD a default = n then linM rs t p (a + 1) g else (g, false))
      else if g.getD (vx n) default = [] then linM rs t p (a + (subS rs t a).length) (g.set (vx n) (subS rs t a))
      else if g.getD (vx n) default = subS rs t a then linM rs t p (a + (subS rs t a).length) g else (g, false)
theorem linM_len (rs t : List Int) : ∀ (p : List Int) (a : Nat) (g : Bnd), (linM rs t p a g).1.length = g.length
  | [], _, _ => rfl
  | n :: p, a, g => by
    have h1 := linM_len rs t p (a + 1) g
    have h2 := linM_len rs t p (a + (subS rs t a).length) (g.set (vx n) (subS rs t a))
    have h3 := linM_len rs t p (a + (subS rs t a).length) g
    rw [List.length_set] at h2
    simp only [linM]
    split
    · rfl
    · split
      · split
        · exact h1
        · rfl
      · split
        · exact h2
        · split
          · exact h3
          · rfl
end Go.Proofs.Ytlcdahaihlflaaa
