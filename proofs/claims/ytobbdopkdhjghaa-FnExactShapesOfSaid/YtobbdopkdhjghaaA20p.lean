/-
  Variants of equations: matching both ways is the same as having one numbering of the variables.
-/
import Derived.Test.YtobbdopkdhjghaaA04p
namespace Go.Proofs.Ytobbdopkdhjghaa
open Go Go.Lg
set_option linter.unusedSimpArgs false
set_option linter.unusedVariables false
def G0 : Bnd := List.replicate 24 []
/-! One numbering. -/
def codeI (s : List Int) (n : Int) : Int := if 0 ≤ n then n else -1 - (s.idxOf n : Int)
def seenS : List Int → List Int → List Int
  | s, [] => s
  | s, n :: l => if 0 ≤ n ∨ n ∈ s then seenS s l else seenS (s ++ [n]) l
def renL : List Int → List (List Int) → List (List Int)
  | _, [] => []
  | s, t :: r => t.map (codeI (seenS s t)) :: renL (seenS s t) r
theorem seenS_pre : ∀ (t s : List Int), ∃ r, seenS s t = s ++ r
  | [], s => ⟨[], by simp [seenS]⟩
  | n :: l, s => by
    simp only [seenS]
    split
    · exact seenS_pre l s
    · obtain ⟨r, h⟩ := seenS_pre l (s ++ [n])
      exact ⟨n :: r, by rw [h]; simp⟩
theorem seenS_mem : ∀ (t s : List Int), ∀ n ∈ t, n < 0 → n ∈ seenS s t
  | [], _, n, hn, _ => by cases hn
  | m :: l, s, n, hn, h0 => by
    simp only [seenS]
    rcases List.mem_cons.1 hn with rfl | hn
    · split
      · rename_i h
        obtain ⟨r, e⟩ := seenS_pre l s
        rw [e]; exact List.mem_append_left _ (h.resolve_left (by omega))
      · obtain ⟨r, e⟩ := seenS_pre l (s ++ [n])
        rw [e]; simp
    · split
      · exact seenS_mem l s n hn h0
      · exact seenS_mem l _ n hn h0
theorem codeI_mono {s r : List Int} {n : Int} (h : 0 ≤ n ∨ n ∈ s) : codeI (s ++ r) n = codeI s n := by
  unfold codeI
  split
  · rfl
  · rw [List.idxOf_append, if_pos (h.resolve_left (by omega))]
theorem code_all {s t r : List Int} : t.map (codeI (seenS s t ++ r)) = t.map (codeI (seenS s t)) := List.map_congr_left fun n hn => codeI_mono (by
  by_cases h : 0 ≤ n
  · exact .inl h
  · exact .inr (seenS_mem t s n hn (by omega)))
theorem seenS_sub : ∀ (t s : List Int), ∀ n ∈ seenS s t, n ∈ s ∨ (n ∈ t ∧ n < 0)
  | [], s, n, h => .inl h
  | m :: l, s, n, h => by
    simp only [seenS] at h
    split at h
    · rcases seenS_sub l s n h with h | ⟨h, h0⟩
      · exact .inl h
      · exact .inr ⟨List.mem_cons_of_mem _ h, h0⟩
    · rename_i hc
      rcases seenS_sub l _ n h with h | ⟨h, h0⟩
      · rcases List.mem_append.1 h with h | h
        · exact .inl h
        · rw [List.mem_singleton.1 h]
          exact .inr ⟨List.mem_cons_self, by omega⟩
      · exact .inr ⟨List.mem_cons_of_mem _ h, h0⟩
end Go.Proofs.Ytobbdopkdhjghaa
