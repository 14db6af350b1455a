/-
  What two terms have in common: the plain law.
-/
import Derived.Test.YtgbcnhbmfjkhmaaA03
namespace Go.Proofs.Ytgbcnhbmfjkhmaa
open Go Go.Lg
abbrev Prs := List (List Int × List Int)
def genA (F : List Int → List Int → Prs → List Int × Prs) (rs a b : List Int) (P : Prs) : Nat → List Int × Prs
  | 0 => ([a.getD 0 default], P)
  | j + 1 => ((genA F rs a b P j).1 ++ (F (subS rs a (nthB rs a 1 j)) (subS rs b (nthB rs b 1 j)) (genA F rs a b P j).2).1, (F (subS rs a (nthB rs a 1 j)) (subS rs b (nthB rs b 1 j)) (genA F rs a b P j).2).2)
def SameHd (a b : List Int) : Prop := a.getD 0 default = b.getD 0 default ∧ 0 ≤ a.getD 0 default
instance (a b : List Int) : Decidable (SameHd a b) := inferInstanceAs (Decidable (_ ∧ _))
def leafG (a b : List Int) (P : Prs) : List Int × Prs := if P.idxOf (a, b) < P.length then ([-1 - (P.idxOf (a, b) : Int)], P) else ([-1 - (P.length : Int)], P ++ [(a, b)])
def genM (rs : List Int) : Nat → List Int → List Int → Prs → List Int × Prs
  | 0, _, _, P => ([], P)
  | f + 1, a, b, P => if SameHd a b then genA (genM rs f) rs a b P (arS rs (a.getD 0 default)).toNat else leafG a b P
theorem subS_len {rs t : List Int} (h : TermOkP rs t) {a : Nat} (ha : a < t.length) : (subS rs t a).length + a = (endS rs t a).toNat := by
  have := endS_ge h ha
  unfold subS
  rw [List.length_drop, List.length_take]
  omega
theorem subS_nth {rs t : List Int} (h : TermOkP rs t) {a j : Nat} (ha : a < t.length) (hj : j < (arS rs (t.getD a default)).toNat) : nthB rs t (a + 1) (j + 1) = nthB rs t (a + 1) j + (subS rs t (nthB rs t (a + 1) j)).length := by
  have h1 := nthB_lt h ha hj
  have := subS_len h h1.2
  simp only [nthB]; omega
theorem genA_pos (F : List Int → List Int → Prs → List Int × Prs) (rs a b : List Int) (P : Prs) : ∀ j, 1 ≤ (genA F rs a b P j).1.length
  | 0 => by simp [genA]
  | j + 1 => by have := genA_pos F rs a b P j; simp only [genA, List.length_append]; omega
theorem genM_pos {rs : List Int} : ∀ (f : Nat) (a b : List Int) (P : Prs), 1 ≤ f → 1 ≤ (genM rs f a b P).1.length
  | 0, _, _, _, h => by omega
  | f + 1, a, b, P, _ => by
    unfold genM; split
    · exact genA_pos _ _ _ _ _ _
    · unfold leafG; split <;> simp
/-- bounds -/
theorem genM_len {rs : List Int} : ∀ (f : Nat) (a b : List Int) (P : Prs), TermOkP rs a → TermOkP rs b → (genM rs f a b P).1.length ≤ a.length ∧ P.length ≤ (genM rs f a b P).2.length ∧ (genM rs f a b P).2.length ≤ P.length + a.length
  | 0, a, b, P, _, _ => by simp [genM]
  | f + 1, a, b, P, ha, hb => by
    have hl := ha.2.1
    unfold genM
    split
    · rename_i hs
      have key : ∀ j ≤ (arS rs (a.getD 0 default)).toNat, (genA (genM rs f) rs a b P j).1.length ≤ nthB rs a 1 j ∧ P.length ≤ (genA (genM rs f) rs a b P j).2.length ∧ (genA (genM rs f) rs a b P j).2.length ≤ P.length + nthB rs a 1 j := by
        intro j
        induction j with
        | zero => intro _; simp [genA, nthB]
        | succ j ih =>
          intro hj
          obtain ⟨i1, i2, i3⟩ := ih (by omega)
          have h1 := nthB_lt ha (show 0 < a.length by omega) (show j < _ by omega)
          have hbj : nthB rs b 1 j < b.length := (nthB_lt hb (by have := hb.2.1; omega) (by rw [← hs.1]; omega)).2
          obtain ⟨g1, g2, g3⟩ := genM_len f (subS rs a (nthB rs a 1 j)) (subS rs b (nthB rs b 1 j)) (genA (genM rs f) rs a b P j).2 (subS_ok ha h1.2) (subS_ok hb hbj)
          have h2 := subS_nth ha (show 0 < a.length by omega) (show j < _ by omega)
          simp only [Nat.zero_add] at h2
          simp only [genA, List.length_append]
          omega
      have h3 := key _ (Nat.le_refl _)
      have h4 := nthB_le ha (show 0 < a.length by omega) (Nat.le_refl (arS rs (a.getD 0 default)).toNat)
      simp only [Nat.zero_add] at h4
      omega
    · unfold leafG
      split
      · simp; omega
      · simp; omega
theorem genA_len {rs : List Int} {f : Nat} {a b : List Int} {P : Prs} (ha : TermOkP rs a) (hb : TermOkP rs b) (hs : SameHd a b) : ∀ j ≤ (arS rs (a.getD 0 default)).toNat, (genA (genM rs f) rs a b P j).1.length ≤ nthB rs a 1 j ∧ P.length ≤ (genA (genM rs f) rs a b P j).2.length ∧ (genA (genM rs f) rs a b P j).2.length ≤ P.length + nthB rs a 1 j := by
  intro j
  have hl := ha.2.1
  induction j with
  | zero => intro _; simp [genA, nthB]
  | succ j ih =>
    intro hj
    obtain ⟨i1, i2, i3⟩ := ih (by omega)
    have h1 := nthB_lt ha (show 0 < a.length by omega) (show j < _ by omega)
    have hbj : nthB rs b 1 j < b.length := (nthB_lt hb (by have := hb.2.1; omega) (by rw [← hs.1]; omega)).2
    obtain ⟨g1, g2, g3⟩ := genM_len f (subS rs a (nthB rs a 1 j)) (subS rs b (nthB rs b 1 j)) (genA (genM rs f) rs a b P j).2 (subS_ok ha h1.2) (subS_ok hb hbj)
    have h2 := subS_nth ha (show 0 < a.length by omega) (show j < _ by omega)
    simp only [Nat.zero_add] at h2
    simp only [genA, List.length_append]
    omega
/-- a part's part -/
theorem sub_sub {rs t : List Int} (h : TermOkP rs t) {i : Nat} (hi : i < t.length) : (subS rs t i).getD 0 default = t.getD i default ∧ ∀ j < (arS rs (t.getD i default)).toNat, subS rs (subS rs t i) (nthB rs (subS rs t i) 1 j) = subS rs t (nthB rs t (i + 1) j) := by
  obtain ⟨p, l, r, e, rfl, h0, hl⟩ := args_cut h hi
  have hu : Fl rs 1 (t.getD p.length default :: l) := by
    have : Fl rs (0 + 1) (t.getD p.length default :: l) := .cons h0 (by rw [Nat.zero_add]; exact hl)
    rwa [Nat.zero_add] at this
  have es : subS rs t p.length = t.getD p.length default :: l := by
    conv => lhs; rw [e]
    exact subS_app hu
  rw [es]
  refine ⟨rfl, fun j hj => ?_⟩
  generalize hx : t.getD p.length default = x at *
  obtain ⟨l1, l2, rfl, c1, c2, c3⟩ := Fl.cut [x] [] j _ l hl (by omega)
  obtain ⟨d1, d2, d3, d4, d5, d6⟩ := Fl.cut (p ++ [x]) r j _ (l1 ++ l2) hl (by omega)
  obtain ⟨rfl, rfl⟩ := c1.uniq d4 d3
  obtain ⟨u, r2, rfl, u1, _⟩ := Fl.split l2 1 (_ - (j + 1)) (by rw [show 1 + ((arS rs x).toNat - (j + 1)) = (arS rs x).toNat - j by omega]; exact c2)
  simp only [List.append_nil, List.length_append, List.length_cons, List.length_nil] at c3 d6
  have e1 : x :: (l1 ++ (u ++ r2)) = ([x] ++ l1) ++ (u ++ r2) := by simp
  have e2 : t = (p ++ [x] ++ l1) ++ (u ++ (r2 ++ r)) := by rw [e]; simp
  have c3' : nthB rs (x :: (l1 ++ (u ++ r2))) 1 j = ([x] ++ l1).length := by
    have : [x] ++ (l1 ++ (u ++ r2)) = x :: (l1 ++ (u ++ r2)) := rfl
    rw [this] at c3
    simp at c3 ⊢; omega
  have d6' : nthB rs t (p.length + 1) j = (p ++ [x] ++ l1).length := by
    have : p ++ [x] ++ (l1 ++ (u ++ r2) ++ r) = t := by rw [e]; simp
    rw [this] at d6
    simp at d6 ⊢; omega
  rw [c3', d6']
  conv => lhs; rw [e1]
  conv => rhs; rw [e2]
  rw [subS_app u1, subS_app u1]
theorem idx_notin {P : Prs} {x : List Int × List Int} (h : ∀ j < P.length, P.getD j default ≠ x) : P.idxOf x = P.length := by
  refine List.idxOf_eq_length ?_
  intro hx
  obtain ⟨j, hj, e⟩ := List.getElem_of_mem hx
  exact h j hj (by simp [List.getD, List.getElem?_eq_getElem hj, e])
theorem idx_first {P : Prs} {x : List Int × List Int} {k : Nat} (hk : k < P.length) (h : ∀ j < k, P.getD j default ≠ x) (hx : P.getD k default = x) : P.idxOf x = k := by
  induction P generalizing k with
  | nil => simp at hk
  | cons p P ih =>
    cases k with
    | zero =>
      have : p = x := by simpa [List.getD] using hx
      subst this; simp
    | succ k =>
      have h0 : p ≠ x := by have := h 0 (by omega); simpa [List.getD] using this
      rw [List.idxOf_cons, show (p == x) = false by simpa using h0]
      simp only [cond_false]
      congr 1
      refine ih (by simpa using hk) (fun j hj => ?_) (by simpa [List.getD] using hx)
      have := h (j + 1) (by omega)
      simpa [List.getD] using this
end Go.Proofs.Ytgbcnhbmfjkhmaa
