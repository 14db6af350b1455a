/-
  One numbering of a term's variables: the plain laws.
-/
import Derived.Test.YtfokjjlbdaabaaaA05l
import Derived.Test.YtfokjjlbdaabaaaA20v
namespace Go.Proofs.Ytfokjjlbdaabaaa
open Go Go.Lg
set_option linter.unusedSimpArgs false
set_option linter.unusedVariables false
set_option maxHeartbeats 4000000
theorem len_le_rngN : ∀ (n : Nat) (r : List Int), r.Nodup → (∀ x ∈ r, x < 0 ∧ -(n : Int) ≤ x) → r.length ≤ n
  | 0, r, _, h => by
    cases r with
    | nil => exact Nat.le_refl _
    | cons x r => have := h x List.mem_cons_self; omega
  | n + 1, r, hd, h => by
    have h1 := len_le_rngN n (r.erase (-(n : Int) - 1)) (hd.erase _) (fun x hx => by
      have hx' := List.mem_of_mem_erase hx
      have hne : x ≠ (-(n : Int) - 1) := fun e => by
        subst e
        exact (List.Nodup.not_mem_erase hd) hx
      have := h x hx'
      omega)
    rw [List.length_erase] at h1
    split at h1 <;> omega
theorem seenS_nodup : ∀ (t s : List Int), s.Nodup → (seenS s t).Nodup
  | [], s, h => h
  | n :: l, s, h => by
    simp only [seenS]
    split
    · exact seenS_nodup l s h
    · rename_i hn
      refine seenS_nodup l _ (List.nodup_append.2 ⟨h, by simp, fun a ha b hb e => ?_⟩)
      simp only [List.mem_singleton] at hb
      subst hb; subst e
      exact hn (.inr ha)
theorem seen0_neg (t : List Int) : ∀ n ∈ seenS [] t, n ∈ t ∧ n < 0 := fun n h => (seenS_sub t [] n h).resolve_left (by simp)
theorem seen0_len {t : List Int} (h : ∀ n ∈ t, -24 ≤ n) : (seenS [] t).length ≤ 24 := len_le_rngN 24 _ (seenS_nodup t [] (by simp)) fun x hx => by
  have := seen0_neg t x hx
  have := h x this.1
  omega
theorem fl_map {rs : List Int} {f : Int → Int} {k : Nat} {t : List Int} (h : Fl rs k t) : (∀ n ∈ t, arS rs (f n) = arS rs n) → Fl rs k (t.map f) := by
  induction h with
  | nil => exact fun _ => .nil
  | @cons n k l h0 hr ih =>
    intro hf
    have e := hf n List.mem_cons_self
    exact .cons (by rw [e]; exact h0) (by rw [e]; exact ih fun m hm => hf m (List.mem_cons_of_mem _ hm))
def ren0 (t : List Int) : List Int := t.map (codeI (seenS [] t))
theorem ren0_ok {rs t : List Int} (h : TermOkP rs t) : TermOkP rs (ren0 t) := by
  have hl := seen0_len h.ge
  refine fl_termOk h.1 (fl_map (termOk_fl h) fun n hn => ?_) (by unfold ren0; rw [List.length_map]; exact h.2.1.2)
  unfold codeI
  split
  · rfl
  · rename_i h0
    have := List.idxOf_lt_length_of_mem (seenS_mem t [] n hn (by omega))
    rw [arS_var ⟨h.ge n hn, by omega⟩, arS_var ⟨by omega, by omega⟩]
/-- the number of a variable, looked up place by place -/
def byK (s : List Int) (x : Int) (k : Nat) : Int := if x ∈ s.take k then -1 - (s.idxOf x : Int) else x
theorem byK_hit {s : List Int} (hs : s.Nodup) {x : Int} {k : Nat} (hk : k < s.length) (e : s.getD k default = x) : byK s x (k + 1) = -1 - (k : Int) := by
  have hx : s[k] = x := by rw [← e]; simp [List.getD, hk]
  unfold byK
  rw [if_pos (by rw [List.take_succ_eq_append_getElem hk, hx]; simp)]
  have : s.idxOf x = k := by
    rw [← hx]
    have h1 := List.idxOf_lt_length_of_mem (List.getElem_mem hk)
    have h2 : s[s.idxOf s[k]] = s[k] := List.getElem_idxOf h1
    exact (List.getElem_inj hs).1 h2
  rw [this]
theorem ite_prop_congr {α : Type} {p q : Prop} [Decidable p] [Decidable q] (h : p ↔ q) {a b : α} : (if p then a else b) = if q then a else b := by
  by_cases hp : p
  · rw [if_pos hp, if_pos (h.1 hp)]
  · rw [if_neg hp, if_neg fun hq => hp (h.2 hq)]
theorem byK_miss {s : List Int} {x : Int} {k : Nat} (hk : k < s.length) (e : ¬ s.getD k default = x) : byK s x (k + 1) = byK s x k := by
  have hx : ¬ x = s[k] := fun h => e (by rw [h]; simp [List.getD, hk])
  have e2 : x ∈ s.take (k + 1) ↔ x ∈ s.take k := by
    rw [List.take_succ_eq_append_getElem hk, List.mem_append, List.mem_singleton]
    exact ⟨fun h => h.resolve_right hx, .inl⟩
  unfold byK
  rw [ite_prop_congr e2]
theorem byK_zero (s : List Int) (x : Int) : byK s x 0 = x := by simp [byK]
theorem byK_all {s : List Int} {x : Int} {k : Nat} (hk : s.length ≤ k) (hx : x < 0) (h : x ∈ s) : byK s x k = codeI s x := by
  unfold byK codeI
  rw [List.take_of_length_le hk, if_pos h, if_neg (by omega)]
end Go.Proofs.Ytfokjjlbdaabaaa
