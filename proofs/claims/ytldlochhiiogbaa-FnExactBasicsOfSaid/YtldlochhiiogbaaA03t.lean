/-
  Terms in a row, on the flat lists: splitting, ends, subterms, replacing.
-/
import Derived.Test.YtldlochhiiogbaaA01
namespace Go.Proofs.Ytldlochhiiogbaa
open Go Go.Lg
set_option linter.unusedSimpArgs false
/-- 'k' terms in a row -/
inductive Fl (rs : List Int) : Nat → List Int → Prop
  | nil : Fl rs 0 []
  | cons {n : Int} {k : Nat} {l : List Int} (h : 0 ≤ arS rs n) (r : Fl rs (k + (arS rs n).toNat) l) : Fl rs (k + 1) (n :: l)
theorem Fl.zero {rs l : List Int} (h : Fl rs 0 l) : l = [] := by
  generalize e : (0 : Nat) = k at h
  cases h with
  | nil => rfl
  | cons _ _ => omega
theorem Fl.len {rs l : List Int} {k : Nat} (h : Fl rs k l) : k ≤ l.length := by
  induction h with
  | nil => exact Nat.le_refl _
  | cons _ _ ih => simp only [List.length_cons]; omega
theorem Fl.app {rs l : List Int} {j : Nat} (h : Fl rs j l) : ∀ {k : Nat} {m : List Int}, Fl rs k m → Fl rs (j + k) (l ++ m) := by
  induction h with
  | nil => intro k m hm; rw [Nat.zero_add]; exact hm
  | @cons n i l h r ih =>
    intro k m hm
    have := ih hm
    rw [show i + 1 + k = (i + k) + 1 by omega]
    exact .cons h (by rw [show i + k + (arS rs n).toNat = i + (arS rs n).toNat + k by omega]; exact this)
theorem Fl.split {rs : List Int} : ∀ (l : List Int) (j k : Nat), Fl rs (j + k) l → ∃ l1 l2, l = l1 ++ l2 ∧ Fl rs j l1 ∧ Fl rs k l2
  | [], j, k, h => by
    have := h.len
    simp only [List.length_nil] at this
    obtain rfl : j = 0 := by omega
    obtain rfl : k = 0 := by omega
    exact ⟨[], [], rfl, .nil, .nil⟩
  | n :: l, 0, k, h => ⟨[], n :: l, rfl, .nil, by rw [Nat.zero_add] at h; exact h⟩
  | n :: l, j + 1, k, h => by
    rw [show j + 1 + k = (j + k) + 1 by omega] at h
    cases h with
    | cons h r =>
      rw [show j + k + (arS rs n).toNat = (j + (arS rs n).toNat) + k by omega] at r
      obtain ⟨l1, l2, e, h1, h2⟩ := Fl.split l _ _ r
      exact ⟨n :: l1, l2, by rw [e]; rfl, .cons h h1, h2⟩
theorem Fl.scan {rs : List Int} {k : Nat} {l : List Int} (h : Fl rs k l) : ∀ (r : List Int) (i : Nat), 1 ≤ k → Go.Proofs.Ytldlochhiiogbaa.scan rs (l ++ r) k i = i + l.length := by
  induction h with
  | nil => intro r i h0; omega
  | @cons n k l h hr ih =>
    intro r i _
    simp only [List.cons_append, Go.Proofs.Ytldlochhiiogbaa.scan]
    rw [if_neg (by omega)]
    by_cases e : k + (arS rs n).toNat = 0
    · rw [if_pos (by omega)]
      rw [e] at hr
      rw [hr.zero]
      simp
    · rw [if_neg (by omega)]
      have := ih r (i + 1) (by omega)
      rw [show ((k + 1 : Nat) : Int) + arS rs n - 1 = ((k + (arS rs n).toNat : Nat) : Int) by omega, this]
      simp only [List.length_cons]; omega
theorem scan_fl {rs : List Int} : ∀ (l : List Int) (k i : Nat) (e : Int), 1 ≤ k → scan rs l k i = e → 0 ≤ e → ∃ l1 l2, l = l1 ++ l2 ∧ Fl rs k l1 ∧ e = i + l1.length
  | [], k, i, e, _, h, he => by simp only [scan] at h; omega
  | n :: l, k, i, e, hk, h, he => by
    simp only [scan] at h
    split at h
    · omega
    · rename_i h0
      obtain ⟨k, rfl⟩ : ∃ q, k = q + 1 := ⟨k - 1, by omega⟩
      split at h
      · rename_i h1
        obtain ⟨rfl, h3⟩ : k = 0 ∧ arS rs n = 0 := by omega
        exact ⟨[n], l, rfl, .cons (by omega) (by rw [h3]; exact .nil), by simp; omega⟩
      · rename_i h1
        obtain ⟨l1, l2, e1, e2, e3⟩ := scan_fl l (k + (arS rs n).toNat) (i + 1) e (by omega) (by rw [← h]; congr 1; omega) he
        exact ⟨n :: l1, l2, by rw [e1]; rfl, .cons (by omega) e2, by simp only [List.length_cons]; omega⟩
theorem Fl.uniq {rs : List Int} {k : Nat} {l : List Int} (h : Fl rs k l) : ∀ {m r s : List Int}, Fl rs k m → l ++ r = m ++ s → l = m ∧ r = s := by
  induction h with
  | nil => intro m r s hm e; rw [hm.zero] at e ⊢; exact ⟨rfl, e⟩
  | @cons n k l h hr ih =>
    intro m r s hm e
    cases hm with
    | @cons n' _ m h' hr' =>
      simp only [List.cons_append, List.cons.injEq] at e
      obtain ⟨rfl, e⟩ := e
      obtain ⟨rfl, rfl⟩ := ih hr' e
      exact ⟨rfl, rfl⟩
theorem Fl.pre {rs : List Int} {k : Nat} {l : List Int} (h : Fl rs k l) {m : List Int} (hm : Fl rs k m) {r : List Int} (e : l = m ++ r) : l = m ∧ r = [] := by
  have := Fl.uniq h hm (r := []) (s := r) (by simpa using e)
  exact ⟨this.1, this.2.symm⟩
theorem termOk_fl {rs t : List Int} (h : TermOkP rs t) : Fl rs 1 t := by
  obtain ⟨_, _, h3⟩ := h
  unfold endS at h3
  rw [List.drop_zero] at h3
  obtain ⟨l1, l2, e1, e2, e3⟩ := scan_fl t 1 0 _ (by omega) h3 (by omega)
  have : l2 = [] := by
    have := congrArg List.length e1
    rw [List.length_append] at this
    exact List.length_eq_zero_iff.1 (by omega)
  rw [e1, this, List.append_nil]; exact e2
theorem endS_app {rs : List Int} {p u r : List Int} (h : Fl rs 1 u) : endS rs (p ++ (u ++ r)) p.length = p.length + u.length := by
  unfold endS
  rw [List.drop_left]
  exact h.scan r p.length (by omega)
/-- from each place of terms in a row a term begins -/
theorem Fl.at {rs : List Int} : ∀ (l : List Int) (k a : Nat), Fl rs k l → a < l.length → ∃ p u r, l = p ++ (u ++ r) ∧ p.length = a ∧ Fl rs 1 u
  | [], _, a, _, ha => absurd ha (Nat.not_lt_zero _)
  | n :: l, k, 0, h, _ => by
    obtain ⟨k, rfl⟩ : ∃ q, k = q + 1 := by cases h; exact ⟨_, rfl⟩
    obtain ⟨l1, l2, e, h1, _⟩ := Fl.split (n :: l) 1 k (by rw [Nat.add_comm]; exact h)
    exact ⟨[], l1, l2, e, rfl, h1⟩
  | n :: l, k, a + 1, h, ha => by
    cases h with
    | cons h r =>
      obtain ⟨p, u, s, e, hp, hu⟩ := Fl.at l _ a r (by simpa using ha)
      exact ⟨n :: p, u, s, by rw [e]; rfl, by simp [hp], hu⟩
theorem TermOkP.at {rs t : List Int} (h : TermOkP rs t) {a : Nat} (ha : a < t.length) : ∃ p u r, t = p ++ (u ++ r) ∧ p.length = a ∧ Fl rs 1 u := Fl.at t 1 a (termOk_fl h) ha
/-- the k-th step along terms in a row -/
def nthB (rs t : List Int) (a : Nat) : Nat → Nat
  | 0 => a
  | j + 1 => (endS rs t (nthB rs t a j)).toNat
/-- terms in a row, cut -/
theorem Fl.cut {rs : List Int} (p r : List Int) : ∀ (j : Nat) (k : Nat) (l : List Int), Fl rs k l → j ≤ k → ∃ l1 l2, l = l1 ++ l2 ∧ Fl rs j l1 ∧ Fl rs (k - j) l2 ∧ nthB rs (p ++ (l ++ r)) p.length j = (p ++ l1).length
  | 0, k, l, h, _ => ⟨[], l, rfl, .nil, by simpa using h, by simp [nthB]⟩
  | j + 1, k, l, h, hj => by
    obtain ⟨l1, l2, rfl, h1, h2, h3⟩ := Fl.cut p r j k l h (by omega)
    obtain ⟨m1, m2, rfl, h4, h5⟩ := Fl.split l2 1 (k - (j + 1)) (by rw [show 1 + (k - (j + 1)) = k - j by omega]; exact h2)
    refine ⟨l1 ++ m1, m2, by simp, h1.app h4, h5, ?_⟩
    have e : p ++ (l1 ++ (m1 ++ m2) ++ r) = (p ++ l1) ++ (m1 ++ (m2 ++ r)) := by simp
    show (endS rs _ (nthB rs _ _ j)).toNat = _
    rw [h3, e, endS_app h4]
    simp only [List.length_append]; omega
end Go.Proofs.Ytldlochhiiogbaa
