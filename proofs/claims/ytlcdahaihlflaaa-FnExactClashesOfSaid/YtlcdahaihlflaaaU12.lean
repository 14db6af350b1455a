/-
  ClashesOf: what the unifier answers for two left sides; plain law.
-/
import Derived.Test.YtlcdahaihlflaaaU11
import Derived.Test.YtlcdahaihlflaaaU07
namespace Go.Proofs.Ytlcdahaihlflaaa
open Go Go.Lg
set_option linter.unusedSimpArgs false
set_option linter.unusedVariables false
set_option maxHeartbeats 1000000
theorem phi_aw {n : Int} (h : -24 ≤ n) : phi (awF n) = n := by unfold phi awF; split <;> split <;> omega
theorem phiL_away {rs t : List Int} (h : TermOkP rs t) : phiL (awayL t) = t := by
  unfold phiL awayL
  rw [List.map_map]
  conv => rhs; rw [← List.map_id t]
  exact List.map_congr_left fun x hx => phi_aw (h.ge x hx)
theorem XT.away {rs t : List Int} (h : TermOkP rs t) : XT rs (awayL t) := ⟨by rw [phiL_away h]; exact h, fun x hx => by
  obtain ⟨y, hy, rfl⟩ := List.mem_map.1 hx
  have := h.ge y hy
  unfold awF; split <;> omega⟩
theorem hd_away {rs t : List Int} (h : TermOkP rs t) : hd (awayL t) = awF (hd t) := by
  have := h.2.1
  unfold hd awayL
  rw [List.getD_eq_getElem?_getD, List.getD_eq_getElem?_getD, List.getElem?_map, List.getElem?_eq_getElem (by omega)]; rfl
theorem subX_away {rs t : List Int} (h : TermOkP rs t) (a : Nat) : subX rs (awayL t) a = awayL (subS rs t a) := by
  unfold subX
  rw [phiL_away h]
  simp [awayL, subS, List.map_drop, List.map_take]
theorem pairs_away {rs a b : List Int} (hB : TermOkP rs b) : pairsX rs a (awayL b) = (List.range (argsS rs (phiL a) 0).length).map fun k => (subX rs a ((argsS rs (phiL a) 0).getD k default), awayL (subS rs b ((argsS rs b 0).getD k default))) := by
  unfold pairsX
  rw [phiL_away hB]
  exact List.map_congr_left fun k _ => by rw [subX_away hB]
theorem pairs_plain {rs a b : List Int} (hB : TermOkP rs b) : pairsX rs a b = (List.range (argsS rs (phiL a) 0).length).map fun k => (subX rs a ((argsS rs (phiL a) 0).getD k default), subS rs b ((argsS rs b 0).getD k default)) := by
  unfold pairsX
  rw [phiL_id hB]
  exact List.map_congr_left fun k _ => by rw [subX_id hB]
theorem meet_away (rs : List Int) : ∀ (f : Nat) (a b : List Int), XT rs a → TermOkP rs b → (MeetM rs f a (awayL b) ↔ MeetM rs f a b)
  | 0, _, _, _, _ => Iff.rfl
  | f + 1, a, b, hA, hB => by
    have hh := hd_away hB
    unfold MeetM
    rw [hh]
    by_cases h2 : hd b < 0
    · exact ⟨fun _ => .inr (.inl h2), fun _ => .inr (.inl (by unfold awF; rw [if_pos h2]; omega))⟩
    · have e : awF (hd b) = hd b := if_neg h2
      rw [e]
      by_cases he : hd a = hd b
      · have hlen := argsX_len hA (XT.of hB) he
        rw [phiL_id hB] at hlen
        have hb := hB.2.1
        have key : (∀ p ∈ pairsX rs a (awayL b), MeetM rs f p.1 p.2) ↔ ∀ p ∈ pairsX rs a b, MeetM rs f p.1 p.2 := by
          rw [pairs_away hB, pairs_plain hB]
          constructor
          · intro h p hp
            obtain ⟨k, hk, rfl⟩ := List.mem_map.1 hp
            have hk2 := List.mem_range.1 hk
            have := h _ (List.mem_map.2 ⟨k, hk, rfl⟩)
            exact (meet_away rs f _ _ (subX_ok hA (argsX_lt hA hk2)) (subS_ok hB (argsS_lt hB (a := 0) (by omega) _ (getD_mem _ k (by omega))).2)).1 this
          · intro h p hp
            obtain ⟨k, hk, rfl⟩ := List.mem_map.1 hp
            have hk2 := List.mem_range.1 hk
            have := h _ (List.mem_map.2 ⟨k, hk, rfl⟩)
            exact (meet_away rs f _ _ (subX_ok hA (argsX_lt hA hk2)) (subS_ok hB (argsS_lt hB (a := 0) (by omega) _ (getD_mem _ k (by omega))).2)).2 this
        rw [key]
      · constructor
        · rintro (h | h | h)
          · exact .inl h
          · exact absurd h h2
          · exact absurd h.1 he
        · rintro (h | h | h)
          · exact .inl h
          · exact absurd h h2
          · exact absurd h.1 he
theorem lin_nodup {t : List Int} (h : LinP t) : ∀ n ≤ t.length, (negs (t.take n)).Nodup := by
  intro n
  induction n with
  | zero => intro _; simp [negs]
  | succ n ih =>
    intro hn
    have e : t.take (n + 1) = t.take n ++ [t.getD n default] := by
      rw [List.take_succ_eq_append_getElem (by omega), List.getD_eq_getElem?_getD, List.getElem?_eq_getElem (by omega)]; rfl
    rw [e, negs_app, List.nodup_append]
    refine ⟨ih (by omega), ?_, fun x hx y hy hxy => ?_⟩
    · unfold negs
      exact (show List.Nodup [t.getD n default] from List.nodup_cons.2 ⟨by simp, List.nodup_nil⟩).sublist List.filter_sublist
    · obtain ⟨h1, h2⟩ := mem_negs.1 hy
      rw [List.mem_singleton] at h1
      subst h1
      subst hxy
      exact h n (by omega) h2 (mem_negs.1 hx).1
theorem negs_away {t : List Int} : negs (awayL t) = (negs t).map (· - 24) := by
  unfold negs awayL
  induction t with
  | nil => rfl
  | cons x r ih =>
    simp only [List.map_cons, List.filter_cons]
    unfold awF at ih ⊢
    by_cases h : x < 0
    · have h2 : x - 24 < 0 := by omega
      simp [h, h2, ih]
    · simp [h, ih]
theorem pair_nodup {rs a b : List Int} (hA : TermOkP rs a) (hB : TermOkP rs b) (la : LinP a) (lb : LinP b) : (negs (a ++ awayL b)).Nodup := by
  have h1 := lin_nodup la a.length (Nat.le_refl _)
  have h2 := lin_nodup lb b.length (Nat.le_refl _)
  rw [List.take_length] at h1 h2
  rw [negs_app, List.nodup_append]
  refine ⟨h1, ?_, fun x hx y hy hxy => ?_⟩
  · rw [negs_away]
    exact List.Pairwise.map _ (fun x y h e => h (by omega)) h2
  · rw [negs_away] at hy
    obtain ⟨z, hz, rfl⟩ := List.mem_map.1 hy
    have k1 := hA.ge x (mem_negs.1 hx).1
    have k2 := (mem_negs.1 hz).2
    omega
def b0 : Bds := List.replicate 48 []
theorem b0_get (i : Nat) : b0.getD i default = [] := by
  unfold b0
  rw [List.getD_eq_getElem?_getD, List.getElem?_replicate]
  split <;> rfl
theorem b0_ok (rs : List Int) : BOK rs b0 := ⟨by simp [b0], fun x hx => .inl (List.eq_of_mem_replicate hx)⟩
/-- what solve answers for two left sides -/
theorem solve_law {rs a b : List Int} (hA : TermOkP rs a) (hB : TermOkP rs b) (la : LinP a) (lb : LinP b) : (MeetM rs 60 a b ∧ ∃ β', eqM rs 1 60 b0 a (awayL b) = some (some β')) ∨ (¬ MeetM rs 60 a b ∧ eqM rs 1 60 b0 a (awayL b) = some none) := by
  obtain ⟨r, h1, h2, _⟩ := lin_law rs 0 60 a (awayL b) b0 hA.2.1.2 (XT.of hA) (XT.away hB) (fun x _ _ => b0_get _) (pair_nodup hA hB la lb)
  rw [meet_away rs 60 a b (XT.of hA) hB] at h2
  cases r with
  | none => exact .inr ⟨fun h => (by have := h2.2 h; cases this), h1⟩
  | some β' => exact .inl ⟨h2.1 rfl, β', h1⟩
end Go.Proofs.Ytlcdahaihlflaaa
