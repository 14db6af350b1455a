/-
  What two terms have in common: the plain law.
-/
import Derived.Test.YtlcdahaihlflaaaA03
namespace Go.Proofs.Ytlcdahaihlflaaa
open Go Go.Lg
def SameHd (a b : List Int) : Prop := a.getD 0 default = b.getD 0 default ∧ 0 ≤ a.getD 0 default
instance (a b : List Int) : Decidable (SameHd a b) := inferInstanceAs (Decidable (_ ∧ _))
/-- a part's part -/
theorem sub_sub {rs t : List Int} (h : TermOkP rs t) {i : Nat} (hi : i < t.length) : (subS rs t i).getD 0 default = t.getD i default ∧ ∀ j < (arS rs (t.getD i default)).toNat, subS rs (subS rs t i) (nthB rs (subS rs t i) 1 j) = subS rs t (nthB rs t (i + 1) j) := by
  obtain ⟨p, l, r, e, rfl, h0, hl⟩ := args_cut h hi
  have hu : Fl rs 1 (t.getD p.length default :: l) := by
    have : Fl rs (0 + 1) (t.getD p.length default :: l) := .cons h0 (by rw [Nat.zero_add]; exact hl)
    rwa [Nat.zero_add] at this
  have es : subS rs t p.length = t.getD p.length default :: l := by
    conv => lhs; rw [e]
    exact subS_app hu
  rw [es]
  refine ⟨rfl, fun j hj => ?_⟩
  generalize hx : t.getD p.length default = x at *
  obtain ⟨l1, l2, rfl, c1, c2, c3⟩ := Fl.cut [x] [] j _ l hl (by omega)
  obtain ⟨d1, d2, d3, d4, d5, d6⟩ := Fl.cut (p ++ [x]) r j _ (l1 ++ l2) hl (by omega)
  obtain ⟨rfl, rfl⟩ := c1.uniq d4 d3
  obtain ⟨u, r2, rfl, u1, _⟩ := Fl.split l2 1 (_ - (j + 1)) (by rw [show 1 + ((arS rs x).toNat - (j + 1)) = (arS rs x).toNat - j by omega]; exact c2)
  simp only [List.append_nil, List.length_append, List.length_cons, List.length_nil] at c3 d6
  have e1 : x :: (l1 ++ (u ++ r2)) = ([x] ++ l1) ++ (u ++ r2) := by simp
  have e2 : t = (p ++ [x] ++ l1) ++ (u ++ (r2 ++ r)) := by rw [e]; simp
  have c3' : nthB rs (x :: (l1 ++ (u ++ r2))) 1 j = ([x] ++ l1).length := by
    have : [x] ++ (l1 ++ (u ++ r2)) = x :: (l1 ++ (u ++ r2)) := rfl
    rw [this] at c3
    simp at c3 ⊢; omega
  have d6' : nthB rs t (p.length + 1) j = (p ++ [x] ++ l1).length := by
    have : p ++ [x] ++ (l1 ++ (u ++ r2) ++ r) = t := by rw [e]; simp
    rw [this] at d6
    simp at d6 ⊢; omega
  rw [c3', d6']
  conv => lhs; rw [e1]
  conv => rhs; rw [e2]
  rw [subS_app u1, subS_app u1]
end Go.Proofs.Ytlcdahaihlflaaa
