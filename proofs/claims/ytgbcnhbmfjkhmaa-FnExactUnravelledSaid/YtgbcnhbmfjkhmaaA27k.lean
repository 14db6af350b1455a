/-
  HeldIn: the two sides hold the same variables.
-/
import Derived.Test.YtgbcnhbmfjkhmaaA27i
namespace Go.Proofs.Ytgbcnhbmfjkhmaa
open Go Go.Lg
theorem mem_nvar (r : CRuleT) (k : Nat) (m : Int) : ∀ n, m ∈ nvar r k n ↔ ∃ x, (x ∈ r.r ∨ x ∈ (r.conds.getD k default).r ∨ ∃ j < n, x ∈ (r.conds.getD (k + 1 + j) default).l ∨ x ∈ (r.conds.getD (k + 1 + j) default).r) ∧ x < 0 ∧ m = -1 - x
  | 0 => by
    simp only [nvar, mem_withL, List.not_mem_nil, false_or]
    constructor
    · rintro (⟨x, h1, h2⟩ | ⟨x, h1, h2⟩)
      · exact ⟨x, .inl h1, h2⟩
      · exact ⟨x, .inr (.inl h1), h2⟩
    · rintro ⟨x, h1 | h1 | ⟨j, hj, _⟩, h2⟩
      · exact .inl ⟨x, h1, h2⟩
      · exact .inr ⟨x, h1, h2⟩
      · omega
  | n + 1 => by
    simp only [nvar, mem_withL, mem_nvar r k m n]
    constructor
    · rintro ((⟨x, h1 | h1 | ⟨j, hj, h1⟩, h2⟩ | ⟨x, h1, h2⟩) | ⟨x, h1, h2⟩)
      · exact ⟨x, .inl h1, h2⟩
      · exact ⟨x, .inr (.inl h1), h2⟩
      · exact ⟨x, .inr (.inr ⟨j, by omega, h1⟩), h2⟩
      · exact ⟨x, .inr (.inr ⟨n, by omega, .inl h1⟩), h2⟩
      · exact ⟨x, .inr (.inr ⟨n, by omega, .inr h1⟩), h2⟩
    · rintro ⟨x, h1 | h1 | ⟨j, hj, h1⟩, h2⟩
      · exact .inl (.inl ⟨x, .inl h1, h2⟩)
      · exact .inl (.inl ⟨x, .inr (.inl h1), h2⟩)
      · rcases Nat.lt_or_ge j n with hl | hg
        · exact .inl (.inl ⟨x, .inr (.inr ⟨j, hl, h1⟩), h2⟩)
        · obtain rfl : j = n := by omega
          rcases h1 with h1 | h1
          · exact .inl (.inr ⟨x, h1, h2⟩)
          · exact .inr ⟨x, h1, h2⟩
theorem mem_heldB (r : CRuleT) (k : Nat) (x : Int) : ∀ i, x ∈ heldB r k i ↔ x ∈ r.r ∨ x ∈ (r.conds.getD k default).r ∨ ∃ j < i, k < j ∧ (x ∈ (r.conds.getD j default).l ∨ x ∈ (r.conds.getD j default).r)
  | 0 => by
    simp only [heldB, List.mem_append]
    constructor
    · rintro (h | h)
      · exact .inr (.inl h)
      · exact .inl h
    · rintro (h | h | ⟨j, hj, _⟩)
      · exact .inr h
      · exact .inl h
      · omega
  | i + 1 => by
    have ih := mem_heldB r k x i
    simp only [heldB]
    split
    · rename_i hki
      simp only [List.mem_append, ih]
      constructor
      · rintro (((h | h | ⟨j, hj, h⟩) | h) | h)
        · exact .inl h
        · exact .inr (.inl h)
        · exact .inr (.inr ⟨j, by omega, h⟩)
        · exact .inr (.inr ⟨i, by omega, hki, .inl h⟩)
        · exact .inr (.inr ⟨i, by omega, hki, .inr h⟩)
      · rintro (h | h | ⟨j, hj, h1, h⟩)
        · exact .inl (.inl (.inl h))
        · exact .inl (.inl (.inr (.inl h)))
        · rcases Nat.lt_or_ge j i with hl | hg
          · exact .inl (.inl (.inr (.inr ⟨j, hl, h1, h⟩)))
          · obtain rfl : j = i := by omega
            rcases h with h | h
            · exact .inl (.inr h)
            · exact .inr h
    · rename_i hki
      rw [ih]
      constructor
      · rintro (h | h | ⟨j, hj, h⟩)
        · exact .inl h
        · exact .inr (.inl h)
        · exact .inr (.inr ⟨j, by omega, h⟩)
      · rintro (h | h | ⟨j, hj, h1, h⟩)
        · exact .inl h
        · exact .inr (.inl h)
        · exact .inr (.inr ⟨j, by omega, h1, h⟩)
theorem mem_heldA (r : CRuleT) (x : Int) : ∀ i, x ∈ heldA r i ↔ x ∈ r.l ∨ ∃ j < i, x ∈ (r.conds.getD j default).r
  | 0 => by
    simp only [heldA]
    constructor
    · exact .inl
    · rintro (h | ⟨j, hj, _⟩)
      · exact h
      · omega
  | i + 1 => by
    simp only [heldA, List.mem_append, mem_heldA r x i]
    constructor
    · rintro ((h | ⟨j, hj, h⟩) | h)
      · exact .inl h
      · exact .inr ⟨j, by omega, h⟩
      · exact .inr ⟨i, by omega, h⟩
    · rintro (h | ⟨j, hj, h⟩)
      · exact .inl (.inl h)
      · rcases Nat.lt_or_ge j i with hl | hg
        · exact .inl (.inr ⟨j, hl, h⟩)
        · obtain rfl : j = i := by omega
          exact .inr h
theorem mem_varsA (r : CRuleT) (m : Int) : ∀ i, m ∈ varsAt r i ↔ ∃ x ∈ heldA r i, x < 0 ∧ m = -1 - x
  | 0 => by simp [varsAt, heldA, mem_withL]
  | i + 1 => by
    simp only [varsAt, heldA, mem_withL, mem_varsA r m i, List.mem_append]
    constructor
    · rintro (⟨x, h, h2⟩ | ⟨x, h, h2⟩)
      · exact ⟨x, .inl h, h2⟩
      · exact ⟨x, .inr h, h2⟩
    · rintro ⟨x, h | h, h2⟩
      · exact .inl ⟨x, h, h2⟩
      · exact .inr ⟨x, h, h2⟩
theorem sort_varsAt (r : CRuleT) : ∀ i, SortP (varsAt r i)
  | 0 => sort_withL _ _ (by simp [SortP])
  | i + 1 => sort_withL _ _ (sort_varsAt r i)
theorem held_eq {r : CRuleT} {k : Nat} (h : HeldP r k) : heldR0 r k = heldG r k (heldV r k).length := by
  unfold heldR0 heldF heldG
  rw [List.take_length, List.take_length]
  have hk := h.hk
  have key := held_ext (varsAt r k) (nvar r k (r.conds.length - k - 1)) (heldA r k) (heldB r k r.conds.length) (sort_varsAt r k) (fun i => mem_varsA r i k) (fun i => ?_) (fun x hx => ?_)
  · rw [key]; rfl
  · rw [mem_nvar]
    simp only [mem_heldB]
    constructor
    · rintro ⟨x, h1 | h1 | ⟨j, hj, h1⟩, h2⟩
      · exact ⟨x, .inl h1, h2⟩
      · exact ⟨x, .inr (.inl h1), h2⟩
      · exact ⟨x, .inr (.inr ⟨k + 1 + j, by omega, by omega, h1⟩), h2⟩
    · rintro ⟨x, h1 | h1 | ⟨j, hj, h0, h1⟩, h2⟩
      · exact ⟨x, .inl h1, h2⟩
      · exact ⟨x, .inr (.inl h1), h2⟩
      · exact ⟨x, .inr (.inr ⟨j - (k + 1), by omega, by rw [show k + 1 + (j - (k + 1)) = j by omega]; exact h1⟩), h2⟩
  · rcases (mem_heldA r x k).1 hx with hx | ⟨j, hj, hx⟩
    · exact h.hl.2 x hx
    · exact (h.hc j (by omega)).2.2 x hx
end Go.Proofs.Ytgbcnhbmfjkhmaa
