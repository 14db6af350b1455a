/-
  A rule with one numbering of its variables: the plain law.
-/
import Derived.Test.YtfokjjlbdaabaaaA05q
import Derived.Test.YtfokjjlbdaabaaaA06s
namespace Go.Proofs.Ytfokjjlbdaabaaa
open Go Go.Lg
set_option linter.unusedSimpArgs false
set_option linter.unusedVariables false
theorem idx_inj : ∀ {s : List Int} {n m : Int}, n ∈ s → m ∈ s → s.idxOf n = s.idxOf m → n = m
  | [], _, _, hn, _, _ => by cases hn
  | x :: s, n, m, hn, hm, e => by
    rw [List.idxOf_cons, List.idxOf_cons] at e
    by_cases h1 : x = n
    · by_cases h2 : x = m
      · rw [← h1, h2]
      · rw [beq_iff_eq.2 h1, beq_eq_false_iff_ne.2 h2] at e
        simp at e
    · by_cases h2 : x = m
      · rw [beq_iff_eq.2 h2, beq_eq_false_iff_ne.2 h1] at e
        simp at e
      · rw [beq_eq_false_iff_ne.2 h1, beq_eq_false_iff_ne.2 h2] at e
        simp only [cond_false, Nat.add_right_cancel_iff] at e
        exact idx_inj ((List.mem_cons.1 hn).resolve_left (fun h => h1 h.symm)) ((List.mem_cons.1 hm).resolve_left (fun h => h2 h.symm)) e
theorem code_sign (s : List Int) (n : Int) : 0 ≤ codeI s n ↔ 0 ≤ n := by
  unfold codeI
  split <;> omega
theorem code_inj {s : List Int} {n m : Int} (hn : n < 0 → n ∈ s) (hm : m < 0 → m ∈ s) (e : codeI s n = codeI s m) : n = m := by
  unfold codeI at e
  split at e <;> split at e
  · exact e
  · omega
  · omega
  · exact idx_inj (hn (by omega)) (hm (by omega)) (by omega)
theorem seen_stay : ∀ {t s : List Int}, (∀ n ∈ t, n < 0 → n ∈ s) → seenS s t = s
  | [], _, _ => rfl
  | n :: l, s, h => by
    simp only [seenS]
    rw [if_pos]
    · exact seen_stay fun m hm => h m (List.mem_cons_of_mem _ hm)
    · by_cases h0 : 0 ≤ n
      · exact .inl h0
      · exact .inr (h n List.mem_cons_self (by omega))
theorem ren0_idem (t : List Int) : ren0 (ren0 t) = ren0 t := by
  have h := renL_map (f := codeI (seenS [] t)) t [] (fun n _ => code_sign _ n) (fun n hn m hm e => code_inj (fun h0 => seenS_mem t [] n (by simpa using hn) h0) (fun h0 => seenS_mem t [] m (by simpa using hm) h0) e) (fun n _ h0 => by unfold codeI; rw [if_pos h0])
  simp only [renL, List.map_nil, List.cons.injEq] at h
  exact h.1
def renR (r : RuleT) : RuleT := ⟨ren0 r.l, r.r.map (codeI (seenS [] r.l))⟩
theorem rule_mem {rs : List Int} {r : RuleT} (h : RuleP rs r) : ∀ n ∈ r.r, n < 0 → n ∈ r.l := fun n hn h0 => by
  obtain ⟨j, hj, rfl⟩ := List.getElem_of_mem hn
  have := h.2 j hj
  rw [List.getD_eq_getElem?_getD, List.getElem?_eq_getElem hj] at this
  exact this h0
theorem rule_seen {rs : List Int} {r : RuleT} (h : RuleP rs r) : seenS (seenS [] r.l) r.r = seenS [] r.l := seen_stay fun n hn h0 => seenS_mem r.l [] n (rule_mem h n hn h0) h0
theorem renL_rule {rs : List Int} {r : RuleT} (h : RuleP rs r) : renL [] [r.l, r.r] = [(renR r).l, (renR r).r] := by
  rw [renL_two, rule_seen h]
  rfl
theorem code_ok {rs l t : List Int} (hl : TermOkP rs l) (ht : TermOkP rs t) (h : ∀ n ∈ t, n < 0 → n ∈ l) : TermOkP rs (t.map (codeI (seenS [] l))) := by
  have hs := seen0_len hl.ge
  refine fl_termOk ht.1 (fl_map (termOk_fl ht) fun n hn => ?_) (by rw [List.length_map]; exact ht.2.1.2)
  unfold codeI
  split
  · rfl
  · rename_i h0
    have := List.idxOf_lt_length_of_mem (seenS_mem l [] n (h n hn (by omega)) (by omega))
    rw [arS_var ⟨ht.ge n hn, by omega⟩, arS_var ⟨by omega, by omega⟩]
theorem renR_ok {rs : List Int} {r : RuleT} (h : RuleP rs r) : RuleP rs (renR r) := by
  have hl := h.1.1.2.1
  have e : ∀ (s t : List Int) (j : Nat), j < t.length → (t.map (codeI s)).getD j default = codeI s (t.getD j default) := fun s t j hj => by simp [List.getD, hj]
  refine ⟨⟨ren0_ok h.1.1, code_ok h.1.1 h.1.2.1 (rule_mem h), ?_⟩, fun j hj h0 => ?_⟩
  · show 0 ≤ (r.l.map (codeI (seenS [] r.l))).getD 0 default
    rw [e _ _ _ (by omega)]
    exact (code_sign _ _).2 h.1.2.2
  · have hj' : j < r.r.length := by
      have : j < (r.r.map (codeI (seenS [] r.l))).length := hj
      rwa [List.length_map] at this
    have h1 : (renR r).r.getD j default = codeI (seenS [] r.l) (r.r.getD j default) := e _ _ _ hj'
    rw [h1] at h0 ⊢
    refine List.mem_map_of_mem (rule_mem h _ (getD_mem r.r j hj') ?_)
    have := code_sign (seenS [] r.l) (r.r.getD j default)
    omega
end Go.Proofs.Ytfokjjlbdaabaaa
