/-
  Matching on flat terms: the program's way along the lists, the reference's way down the trees, and what both say.
-/
import Derived.Test.YtlcdahaihlflaaaA03t
namespace Go.Proofs.Ytlcdahaihlflaaa
open Go Go.Lg
set_option linter.unusedSimpArgs false
set_option linter.unusedVariables false
abbrev Bnd := List (List Int)
def vx (n : Int) : Nat := (-1 - n).toNat
/-- along the pattern -/
def linM (rs t : List Int) : List Int → Nat → Bnd → Bnd × Bool
  | [], _, g => (g, true)
  | n :: p, a, g => if t.length ≤ a then (g, false) else if 0 ≤ n then (if t.getD a default = n then linM rs t p (a + 1) g else (g, false))
      else if g.getD (vx n) default = [] then linM rs t p (a + (subS rs t a).length) (g.set (vx n) (subS rs t a))
      else if g.getD (vx n) default = subS rs t a then linM rs t p (a + (subS rs t a).length) g else (g, false)
/-- the first 'j' arguments -/
def specA (F : Bnd → List Int → List Int → Bnd × Bool) (rs p t : List Int) (g : Bnd) : Nat → Bnd × Bool
  | 0 => (g, true)
  | j + 1 => if (specA F rs p t g j).2 = true then (if (F (specA F rs p t g j).1 (subS rs p (nthB rs p 1 j)) (subS rs t (nthB rs t 1 j))).2 = true then F (specA F rs p t g j).1 (subS rs p (nthB rs p 1 j)) (subS rs t (nthB rs t 1 j)) else ((specA F rs p t g j).1, false)) else specA F rs p t g j
/-- down the trees -/
def specM (rs : List Int) : Nat → Bnd → List Int → List Int → Bnd × Bool
  | 0, g, _, _ => (g, false)
  | f + 1, g, p, t => if p = [] ∨ t = [] then (g, false) else if p.getD 0 default < 0 then
      (if g.getD (vx (p.getD 0 default)) default = [] then (g.set (vx (p.getD 0 default)) t, true) else (g, decide (g.getD (vx (p.getD 0 default)) default = t)))
      else if p.getD 0 default = t.getD 0 default then specA (specM rs f) rs p t g (arS rs (p.getD 0 default)).toNat else (g, false)
theorem linM_len (rs t : List Int) : ∀ (p : List Int) (a : Nat) (g : Bnd), (linM rs t p a g).1.length = g.length
  | [], _, _ => rfl
  | n :: p, a, g => by
    have h1 := linM_len rs t p (a + 1) g
    have h2 := linM_len rs t p (a + (subS rs t a).length) (g.set (vx n) (subS rs t a))
    have h3 := linM_len rs t p (a + (subS rs t a).length) g
    rw [List.length_set] at h2
    simp only [linM]
    split
    · rfl
    · split
      · split
        · exact h1
        · rfl
      · split
        · exact h2
        · split
          · exact h3
          · rfl
theorem specA_len {F : Bnd → List Int → List Int → Bnd × Bool} (hF : ∀ g p t, (F g p t).1.length = g.length) (rs p t : List Int) (g : Bnd) : ∀ j, (specA F rs p t g j).1.length = g.length
  | 0 => rfl
  | j + 1 => by
    have ih := specA_len hF rs p t g j
    simp only [specA]
    split
    · split
      · rw [hF]; exact ih
      · exact ih
    · exact ih
theorem specM_len (rs : List Int) : ∀ (f : Nat) (g : Bnd) (p t : List Int), (specM rs f g p t).1.length = g.length
  | 0, _, _, _ => rfl
  | f + 1, g, p, t => by
    simp only [specM]
    split
    · rfl
    · split
      · split
        · simp
        · rfl
      · split
        · exact specA_len (specM_len rs f) rs p t g _
        · rfl
theorem specA_succ {F : Bnd → List Int → List Int → Bnd × Bool} {rs p t : List Int} {g : Bnd} {j : Nat} (h : (specA F rs p t g j).2 = true) :
    specA F rs p t g (j + 1) = if (F (specA F rs p t g j).1 (subS rs p (nthB rs p 1 j)) (subS rs t (nthB rs t 1 j))).2 = true then F (specA F rs p t g j).1 (subS rs p (nthB rs p 1 j)) (subS rs t (nthB rs t 1 j)) else ((specA F rs p t g j).1, false) := by
  simp only [specA]; rw [if_pos h]
theorem specA_stop {F : Bnd → List Int → List Int → Bnd × Bool} {rs p t : List Int} {g : Bnd} {j : Nat} (h : (specA F rs p t g j).2 = false) : ∀ k, specA F rs p t g (j + k) = specA F rs p t g j
  | 0 => rfl
  | k + 1 => by
    have ih := specA_stop h k
    show specA F rs p t g (j + k + 1) = _
    simp only [specA]
    rw [if_neg (by rw [ih, h]; simp)]
    exact ih
theorem getD_app {q : List Int} {x : Int} {s : List Int} : (q ++ x :: s).getD q.length default = x := by simp [List.getD]
theorem specA_lin {rs : List Int} {f : Nat} (ih : ∀ (p u q r p' : List Int) (g : Bnd), Fl rs 1 p → Fl rs 1 u → p.length ≤ f →
      ((specM rs f g p u).2 = true → linM rs (q ++ (u ++ r)) (p ++ p') q.length g = linM rs (q ++ (u ++ r)) p' (q ++ u).length (specM rs f g p u).1) ∧ ((specM rs f g p u).2 = false → (linM rs (q ++ (u ++ r)) (p ++ p') q.length g).2 = false))
    (n : Int) (l s q r p' : List Int) (g : Bnd) (k : Nat) (hl : Fl rs k l) (hs : Fl rs k s) (hf : l.length ≤ f) : ∀ j ≤ k,
    ∃ l1 l2 s1 s2, l = l1 ++ l2 ∧ s = s1 ++ s2 ∧ Fl rs (k - j) l2 ∧ Fl rs (k - j) s2 ∧ nthB rs (n :: l) 1 j = l1.length + 1 ∧ nthB rs (n :: s) 1 j = s1.length + 1 ∧
      ((specA (specM rs f) rs (n :: l) (n :: s) g j).2 = true → linM rs (q ++ (n :: s ++ r)) (l ++ p') (q.length + 1) g = linM rs (q ++ (n :: s ++ r)) (l2 ++ p') (q ++ n :: s1).length (specA (specM rs f) rs (n :: l) (n :: s) g j).1) ∧
      ((specA (specM rs f) rs (n :: l) (n :: s) g j).2 = false → (linM rs (q ++ (n :: s ++ r)) (l ++ p') (q.length + 1) g).2 = false)
  | 0, _ => ⟨[], l, [], s, rfl, rfl, hl, hs, rfl, rfl, fun _ => by simp [specA], fun h => by simp [specA] at h⟩
  | j + 1, hj => by
    obtain ⟨l1, l2, s1, s2, rfl, rfl, h1, h2, h3, h4, h5, h6⟩ := specA_lin ih n l s q r p' g k hl hs hf j (by omega)
    obtain ⟨m1, m2, rfl, g1, g2⟩ := Fl.split l2 1 (k - (j + 1)) (by rw [show 1 + (k - (j + 1)) = k - j by omega]; exact h1)
    obtain ⟨t1, t2, rfl, g3, g4⟩ := Fl.split s2 1 (k - (j + 1)) (by rw [show 1 + (k - (j + 1)) = k - j by omega]; exact h2)
    have ep : n :: (l1 ++ (m1 ++ m2)) = (n :: l1) ++ (m1 ++ m2) := rfl
    have et : n :: (s1 ++ (t1 ++ t2)) = (n :: s1) ++ (t1 ++ t2) := rfl
    have e1 : subS rs (n :: (l1 ++ (m1 ++ m2))) (nthB rs (n :: (l1 ++ (m1 ++ m2))) 1 j) = m1 := by
      rw [h3, ep]; exact subS_app (p := n :: l1) g1
    have e2 : subS rs (n :: (s1 ++ (t1 ++ t2))) (nthB rs (n :: (s1 ++ (t1 ++ t2))) 1 j) = t1 := by
      rw [h4, et]; exact subS_app (p := n :: s1) g3
    refine ⟨l1 ++ m1, m2, s1 ++ t1, t2, by simp, by simp, g2, g4, ?_, ?_, ?_, ?_⟩
    · show (endS rs _ (nthB rs _ 1 j)).toNat = _
      rw [h3, ep, show l1.length + 1 = (n :: l1).length from rfl, endS_app g1]
      simp only [List.length_append, List.length_cons]; omega
    · show (endS rs _ (nthB rs _ 1 j)).toNat = _
      rw [h4, et, show s1.length + 1 = (n :: s1).length from rfl, endS_app g3]
      simp only [List.length_append, List.length_cons]; omega
    all_goals
      simp only [specA, e1, e2]
      generalize hA : specA (specM rs f) rs (n :: (l1 ++ (m1 ++ m2))) (n :: (s1 ++ (t1 ++ t2))) g j = A at *
      have hm : m1.length ≤ f := by simp only [List.length_append] at hf; omega
      have ht : q ++ (n :: (s1 ++ (t1 ++ t2)) ++ r) = (q ++ n :: s1) ++ (t1 ++ (t2 ++ r)) := by simp
      have hp : (m1 ++ m2) ++ p' = m1 ++ (m2 ++ p') := by simp
      have key := ih m1 t1 (q ++ n :: s1) (t2 ++ r) (m2 ++ p') A.1 g1 g3 hm
      rw [← ht, ← hp] at key
    · intro h
      by_cases hA2 : A.2 = true
      · rw [if_pos hA2] at h ⊢
        by_cases hF : (specM rs f A.1 m1 t1).2 = true
        · rw [if_pos hF] at h ⊢
          rw [h5 hA2, key.1 hF]
          congr 1
          simp
        · rw [if_neg hF] at h; cases h
      · rw [if_neg hA2] at h; exact absurd h hA2
    · intro h
      by_cases hA2 : A.2 = true
      · rw [if_pos hA2] at h
        by_cases hF : (specM rs f A.1 m1 t1).2 = true
        · rw [if_pos hF] at h; rw [h] at hF; cases hF
        · rw [h5 hA2]
          exact key.2 (by simpa using hF)
      · exact h6 (by simpa using hA2)
theorem spec_lin {rs : List Int} : ∀ (f : Nat) (p u q r p' : List Int) (g : Bnd), Fl rs 1 p → Fl rs 1 u → p.length ≤ f →
      ((specM rs f g p u).2 = true → linM rs (q ++ (u ++ r)) (p ++ p') q.length g = linM rs (q ++ (u ++ r)) p' (q ++ u).length (specM rs f g p u).1) ∧ ((specM rs f g p u).2 = false → (linM rs (q ++ (u ++ r)) (p ++ p') q.length g).2 = false)
  | 0, p, u, q, r, p', g, hp, hu, hf => by have := hp.len; omega
  | f + 1, p, u, q, r, p', g, hp, hu, hf => by
    have hsub := subS_app (p := q) (r := r) hu
    cases hp with
    | @cons n k l h0 hl =>
    cases hu with
    | @cons m k' s h0' hs =>
    have hlen : ¬ ((q ++ (m :: s ++ r)).length ≤ q.length) := by simp only [List.length_append, List.length_cons]; omega
    have hget : (q ++ (m :: s ++ r)).getD q.length default = m := getD_app
    simp only [specM, List.cons_append, linM]
    rw [List.cons_append] at hsub hlen hget
    rw [if_neg (by simp), if_neg hlen, show (n :: l).getD 0 default = n from rfl, show (m :: s).getD 0 default = m from rfl, hsub, hget]
    by_cases hn : n < 0
    · rw [if_pos hn, if_neg (show ¬ 0 ≤ n by omega)]
      by_cases hg : g.getD (vx n) default = []
      · have hl0 : l = [] := by
          have : arS rs n = 0 := by
            unfold arS at h0 ⊢
            split
            · rfl
            · rename_i h1
              rw [if_neg h1, if_neg (by omega)] at h0
              omega
          rw [this] at hl
          exact hl.zero
        subst hl0
        rw [if_pos hg, if_pos hg]
        simp
      · have hl0 : l = [] := by
          have : arS rs n = 0 := by
            unfold arS at h0 ⊢
            split
            · rfl
            · rename_i h1
              rw [if_neg h1, if_neg (by omega)] at h0
              omega
          rw [this] at hl
          exact hl.zero
        subst hl0
        rw [if_neg hg, if_neg hg]
        by_cases he : g.getD (vx n) default = m :: s
        · rw [if_pos he, decide_eq_true he]; simp
        · rw [if_neg he, decide_eq_false he]; simp
    · rw [if_neg hn, if_pos (show 0 ≤ n by omega)]
      by_cases hnm : n = m
      · subst hnm
        rw [if_pos rfl, if_pos rfl]
        rw [Nat.zero_add] at hl hs
        obtain ⟨l1, l2, s1, s2, rfl, rfl, h1, h2, _, _, h5, h6⟩ := specA_lin (spec_lin f) n l s q r p' g (arS rs n).toNat hl hs (by simp only [List.length_cons] at hf; omega) (arS rs n).toNat (Nat.le_refl _)
        rw [Nat.sub_self] at h1 h2
        obtain rfl := h1.zero
        obtain rfl := h2.zero
        simp only [List.append_nil, List.nil_append, List.cons_append] at h5 h6 ⊢
        exact ⟨h5, h6⟩
      · rw [if_neg hnm, if_neg (fun e => hnm e.symm)]
        exact ⟨by simp, fun _ => rfl⟩
/-- both ways agree -/
theorem specM_lin {rs p t : List Int} (g : Bnd) {f : Nat} (hp : TermOkP rs p) (ht : TermOkP rs t) (hf : p.length ≤ f) :
    (specM rs f g p t).2 = (linM rs t p 0 g).2 ∧ ((specM rs f g p t).2 = true → (specM rs f g p t).1 = (linM rs t p 0 g).1) := by
  obtain ⟨h1, h2⟩ := spec_lin f p t [] [] [] g (termOk_fl hp) (termOk_fl ht) hf
  simp only [List.nil_append, List.append_nil, List.length_nil] at h1 h2
  by_cases h : (specM rs f g p t).2 = true
  · have := h1 h
    simp only [linM] at this
    rw [this]
    exact ⟨h, fun _ => rfl⟩
  · have h : (specM rs f g p t).2 = false := by simpa using h
    exact ⟨by rw [h, h2 h], fun h' => by rw [h] at h'; cases h'⟩
end Go.Proofs.Ytlcdahaihlflaaa
