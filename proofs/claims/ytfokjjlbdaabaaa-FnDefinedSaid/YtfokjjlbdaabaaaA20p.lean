/-
  Variants of equations: matching both ways is the same as having one numbering of the variables.
-/
import Derived.Test.YtfokjjlbdaabaaaA04p
namespace Go.Proofs.Ytfokjjlbdaabaaa
open Go Go.Lg
set_option linter.unusedSimpArgs false
set_option linter.unusedVariables false
/-! One numbering. -/
def codeI (s : List Int) (n : Int) : Int := if 0 ≤ n then n else -1 - (s.idxOf n : Int)
def seenS : List Int → List Int → List Int
  | s, [] => s
  | s, n :: l => if 0 ≤ n ∨ n ∈ s then seenS s l else seenS (s ++ [n]) l
def renL : List Int → List (List Int) → List (List Int)
  | _, [] => []
  | s, t :: r => t.map (codeI (seenS s t)) :: renL (seenS s t) r
theorem seenS_pre : ∀ (t s : List Int), ∃ r, seenS s t = s ++ r
  | [], s => ⟨[], by simp [seenS]⟩
  | n :: l, s => by
    simp only [seenS]
    split
    · exact seenS_pre l s
    · obtain ⟨r, h⟩ := seenS_pre l (s ++ [n])
      exact ⟨n :: r, by rw [h]; simp⟩
theorem seenS_mem : ∀ (t s : List Int), ∀ n ∈ t, n < 0 → n ∈ seenS s t
  | [], _, n, hn, _ => by cases hn
  | m :: l, s, n, hn, h0 => by
    simp only [seenS]
    rcases List.mem_cons.1 hn with rfl | hn
    · split
      · rename_i h
        obtain ⟨r, e⟩ := seenS_pre l s
        rw [e]; exact List.mem_append_left _ (h.resolve_left (by omega))
      · obtain ⟨r, e⟩ := seenS_pre l (s ++ [n])
        rw [e]; simp
    · split
      · exact seenS_mem l s n hn h0
      · exact seenS_mem l _ n hn h0
theorem codeI_mono {s r : List Int} {n : Int} (h : 0 ≤ n ∨ n ∈ s) : codeI (s ++ r) n = codeI s n := by
  unfold codeI
  split
  · rfl
  · rw [List.idxOf_append, if_pos (h.resolve_left (by omega))]
theorem code_all {s t r : List Int} : t.map (codeI (seenS s t ++ r)) = t.map (codeI (seenS s t)) := List.map_congr_left fun n hn => codeI_mono (by
  by_cases h : 0 ≤ n
  · exact .inl h
  · exact .inr (seenS_mem t s n hn (by omega)))
theorem renL_two (a b : List Int) : renL [] [a, b] = [a.map (codeI (seenS (seenS [] a) b)), b.map (codeI (seenS (seenS [] a) b))] := by
  obtain ⟨r, h⟩ := seenS_pre b (seenS [] a)
  simp only [renL]
  rw [h, code_all]
theorem idxOf_map {f : Int → Int} {n : Int} : ∀ {s : List Int}, (∀ m ∈ s, f m = f n → m = n) → (s.map f).idxOf (f n) = s.idxOf n
  | [], _ => rfl
  | m :: s, h => by
    rw [List.map_cons, List.idxOf_cons, List.idxOf_cons]
    by_cases e : m = n
    · subst e; simp
    · have : f m ≠ f n := fun e2 => e (h m List.mem_cons_self e2)
      have ih := idxOf_map (f := f) (n := n) (s := s) fun k hk => h k (List.mem_cons_of_mem _ hk)
      rw [ih, beq_eq_false_iff_ne.2 this, beq_eq_false_iff_ne.2 e]
theorem seenS_map {f : Int → Int} {X : List Int} (hs : ∀ n ∈ X, 0 ≤ f n ↔ 0 ≤ n) (hi : ∀ n ∈ X, ∀ m ∈ X, f n = f m → n = m) : ∀ (t s : List Int), (∀ n ∈ t, n ∈ X) → (∀ n ∈ s, n ∈ X) → seenS (s.map f) (t.map f) = (seenS s t).map f
  | [], s, _, _ => rfl
  | n :: l, s, ht, hsx => by
    have hn := ht n List.mem_cons_self
    have ih := fun s' hs' => seenS_map hs hi l s' (fun m hm => ht m (List.mem_cons_of_mem _ hm)) hs'
    have hmem : f n ∈ s.map f ↔ n ∈ s := ⟨fun h => by
      obtain ⟨m, hm, e⟩ := List.mem_map.1 h
      rw [← hi m (hsx m hm) n hn e]; exact hm, fun h => List.mem_map_of_mem h⟩
    simp only [List.map_cons, seenS, hs n hn, hmem]
    split
    · exact ih s hsx
    · have := ih (s ++ [n]) (fun m hm => by
        rcases List.mem_append.1 hm with hm | hm
        · exact hsx m hm
        · rw [List.mem_singleton.1 hm]; exact hn)
      rw [List.map_append] at this
      exact this
theorem codeI_map {f : Int → Int} {X : List Int} (hs : ∀ n ∈ X, 0 ≤ f n ↔ 0 ≤ n) (hi : ∀ n ∈ X, ∀ m ∈ X, f n = f m → n = m) (hf : ∀ n ∈ X, 0 ≤ n → f n = n) {s : List Int} (hsx : ∀ n ∈ s, n ∈ X) {n : Int} (hn : n ∈ X) : codeI (s.map f) (f n) = codeI s n := by
  unfold codeI
  by_cases h : 0 ≤ n
  · rw [if_pos ((hs n hn).2 h), if_pos h, hf n hn h]
  · rw [if_neg (fun e => h ((hs n hn).1 e)), if_neg h, idxOf_map fun m hm e => hi m (hsx m hm) n hn e]
theorem seenS_sub : ∀ (t s : List Int), ∀ n ∈ seenS s t, n ∈ s ∨ (n ∈ t ∧ n < 0)
  | [], s, n, h => .inl h
  | m :: l, s, n, h => by
    simp only [seenS] at h
    split at h
    · rcases seenS_sub l s n h with h | ⟨h, h0⟩
      · exact .inl h
      · exact .inr ⟨List.mem_cons_of_mem _ h, h0⟩
    · rename_i hc
      rcases seenS_sub l _ n h with h | ⟨h, h0⟩
      · rcases List.mem_append.1 h with h | h
        · exact .inl h
        · rw [List.mem_singleton.1 h]
          exact .inr ⟨List.mem_cons_self, by omega⟩
      · exact .inr ⟨List.mem_cons_of_mem _ h, h0⟩
theorem renL_map {f : Int → Int} (a b : List Int) (hs : ∀ n ∈ a ++ b, 0 ≤ f n ↔ 0 ≤ n) (hi : ∀ n ∈ a ++ b, ∀ m ∈ a ++ b, f n = f m → n = m) (hf : ∀ n ∈ a ++ b, 0 ≤ n → f n = n) : renL [] [a.map f, b.map f] = renL [] [a, b] := by
  have ha : ∀ n ∈ a, n ∈ a ++ b := fun n h => List.mem_append_left _ h
  have hb : ∀ n ∈ b, n ∈ a ++ b := fun n h => List.mem_append_right _ h
  have e1 := seenS_map hs hi a [] ha (by simp)
  have h1 : ∀ n ∈ seenS [] a, n ∈ a ++ b := fun n h => by
    rcases seenS_sub a [] n h with h | h
    · cases h
    · exact ha n h.1
  have e2 := seenS_map hs hi b _ hb h1
  have h2 : ∀ n ∈ seenS (seenS [] a) b, n ∈ a ++ b := fun n h => by
    rcases seenS_sub b _ n h with h | h
    · exact h1 n h
    · exact hb n h.1
  simp only [List.map_nil] at e1
  rw [renL_two, renL_two, e1, e2]
  simp only [List.map_map, List.cons.injEq, and_true]
  exact ⟨List.map_congr_left fun n hn => codeI_map hs hi hf h2 (ha n hn), List.map_congr_left fun n hn => codeI_map hs hi hf h2 (hb n hn)⟩
end Go.Proofs.Ytfokjjlbdaabaaa
