/-
  Sorted forms modulo associativity and commutativity: the plain law.
-/
import Derived.Test.YtldlochhiiogbaaA05p
namespace Go.Proofs.Ytldlochhiiogbaa
open Go Go.Lg
set_option linter.unusedVariables false
/-- one behind the other, by the first difference -/
def lexB : List Int → List Int → Bool
  | a :: r, b :: s => if a = b then lexB r s else decide (a < b)
  | [], _ :: _ => true
  | _, [] => false
theorem lexB_irr : ∀ a : List Int, lexB a a = false
  | [] => rfl
  | a :: r => by simp [lexB, lexB_irr r]
theorem lexB_tri : ∀ a b : List Int, lexB a b = true ∨ a = b ∨ lexB b a = true
  | [], [] => .inr (.inl rfl)
  | [], b :: s => .inl rfl
  | a :: r, [] => .inr (.inr rfl)
  | a :: r, b :: s => by
    by_cases h : a = b
    · subst h
      rcases lexB_tri r s with h | h | h
      · exact .inl (by simp [lexB, h])
      · exact .inr (.inl (by rw [h]))
      · exact .inr (.inr (by simp [lexB, h]))
    · by_cases h2 : a < b
      · exact .inl (by simp [lexB, h, h2])
      · exact .inr (.inr (by simp [lexB, Ne.symm h]; omega))
theorem lexB_trans : ∀ a b c : List Int, lexB a b = true → lexB b c = true → lexB a c = true
  | [], [], _, h, _ => by simp [lexB] at h
  | a :: r, [], _, h, _ => by simp [lexB] at h
  | _, b :: s, [], _, h => by simp [lexB] at h
  | [], b :: s, c :: q, _, _ => rfl
  | a :: r, b :: s, c :: q, h1, h2 => by
    simp only [lexB] at h1 h2 ⊢
    split at h1 <;> split at h2
    · rename_i e1 e2
      subst e1; subst e2
      simp [lexB_trans r s q h1 h2]
    · rename_i e1 e2
      subst e1
      rw [if_neg e2]; exact h2
    · rename_i e1 e2
      subst e2
      rw [if_neg e1]; exact h1
    · simp only [decide_eq_true_eq] at h1 h2
      rw [if_neg (by omega)]
      simp only [decide_eq_true_eq]; omega
def lessT (a b : List Int) : Bool := if a.length = b.length then lexB a b else decide (a.length < b.length)
theorem lessT_irr (a : List Int) : lessT a a = false := by simp [lessT, lexB_irr]
theorem lessT_tri (a b : List Int) : lessT a b = true ∨ a = b ∨ lessT b a = true := by
  unfold lessT
  by_cases h : a.length = b.length
  · rw [if_pos h, if_pos h.symm]; exact lexB_tri a b
  · rw [if_neg h, if_neg (Ne.symm h)]
    simp only [decide_eq_true_eq]
    omega
theorem lessT_trans (a b c : List Int) (h1 : lessT a b = true) (h2 : lessT b c = true) : lessT a c = true := by
  unfold lessT at *
  split at h1 <;> split at h2
  · rw [if_pos (by omega)]; exact lexB_trans a b c h1 h2
  · simp only [decide_eq_true_eq] at h2
    rw [if_neg (by omega)]; simp only [decide_eq_true_eq]; omega
  · simp only [decide_eq_true_eq] at h1
    rw [if_neg (by omega)]; simp only [decide_eq_true_eq]; omega
  · simp only [decide_eq_true_eq] at h1 h2
    rw [if_neg (by omega)]; simp only [decide_eq_true_eq]; omega
theorem lessT_asym {a b : List Int} (h : lessT a b = true) : lessT b a = false := by
  cases h2 : lessT b a with
  | false => rfl
  | true => have := lessT_trans a b a h h2; rw [lessT_irr] at this; cases this
theorem lessT_anti {a b : List Int} (h1 : lessT a b = false) (h2 : lessT b a = false) : a = b := by
  rcases lessT_tri a b with h | h | h
  · rw [h1] at h; cases h
  · exact h
  · rw [h2] at h; cases h
theorem lessT_ntrans (a b c : List Int) (h1 : lessT a b = false) (h2 : lessT b c = false) : lessT a c = false := by
  cases h : lessT a c with
  | false => rfl
  | true =>
    rcases lessT_tri a b with h3 | h3 | h3
    · rw [h1] at h3; cases h3
    · rw [h3] at h; rw [h2] at h; cases h
    · have := lessT_trans b a c h3 h
      rw [h2] at this; cases this
/-- sorted: none is less than one ahead of it -/
def SrtP (xs : List (List Int)) : Prop := xs.Pairwise (fun a b => lessT b a = false)
theorem srt_uniq {xs ys : List (List Int)} (h1 : SrtP xs) (h2 : SrtP ys) (hp : xs.Perm ys) : xs = ys :=
  List.Perm.eq_of_pairwise (le := fun a b => lessT b a = false) (fun a b _ _ h h' => lessT_anti h' h) h1 h2 hp
def insK (xs : List (List Int)) (t : List Int) : Nat → Nat
  | 0 => 0
  | k + 1 => if lessT t (xs.getD k default) = true then insK xs t k else k + 1
theorem insK_le (xs : List (List Int)) (t : List Int) : ∀ k, insK xs t k ≤ k
  | 0 => Nat.le_refl _
  | k + 1 => by have := insK_le xs t k; unfold insK; split <;> omega
def insT (xs : List (List Int)) (t : List Int) : List (List Int) := xs.take (insK xs t xs.length) ++ t :: xs.drop (insK xs t xs.length)
theorem insT_perm (xs : List (List Int)) (t : List Int) : (insT xs t).Perm (t :: xs) := by
  unfold insT
  refine List.perm_middle.trans ?_
  rw [List.take_append_drop]
theorem insK_lt (xs : List (List Int)) (t : List Int) : ∀ k j, insK xs t k ≤ j → j < k → lessT t (xs.getD j default) = true
  | 0, j, _, h => by omega
  | k + 1, j, h1, h2 => by
    unfold insK at h1
    split at h1
    · rename_i h
      by_cases e : j = k
      · rw [e]; exact h
      · exact insK_lt xs t k j h1 (by omega)
    · omega
theorem insK_ge (xs : List (List Int)) (t : List Int) : ∀ k, insK xs t k = 0 ∨ lessT t (xs.getD (insK xs t k - 1) default) = false
  | 0 => .inl rfl
  | k + 1 => by
    unfold insK
    split
    · exact insK_ge xs t k
    · rename_i h
      right
      simpa using h
theorem insT_srt {xs : List (List Int)} (h : SrtP xs) (t : List Int) : SrtP (insT xs t) := by
  have hle := insK_le xs t xs.length
  have hlt := insK_lt xs t xs.length
  have hge := insK_ge xs t xs.length
  unfold insT
  generalize insK xs t xs.length = k at *
  have hsp : SrtP (xs.take k ++ xs.drop k) := by rw [List.take_append_drop]; exact h
  unfold SrtP at *
  rw [List.pairwise_append] at hsp
  obtain ⟨s1, s2, s3⟩ := hsp
  have hg : ∀ j (hj : j < xs.length), xs.getD j default = xs[j] := fun j hj => by simp [List.getD, List.getElem?_eq_getElem hj]
  rw [List.pairwise_append, List.pairwise_cons]
  have hd : ∀ b ∈ xs.drop k, lessT t b = true := fun b hb => by
    obtain ⟨j, hj, rfl⟩ := List.getElem_of_mem hb
    rw [List.length_drop] at hj
    rw [List.getElem_drop, ← hg (k + j) (by omega)]
    exact hlt (k + j) (by omega) (by omega)
  refine ⟨s1, ⟨fun b hb => lessT_asym (hd b hb), s2⟩, fun a ha b hb => ?_⟩
  rcases List.mem_cons.1 hb with rfl | hb
  · -- a stands at a place below k
    obtain ⟨j, hj, rfl⟩ := List.getElem_of_mem ha
    rw [List.length_take] at hj
    rw [List.getElem_take]
    rcases hge with e | e
    · omega
    · have hk1 : k - 1 < xs.length := by omega
      rw [hg _ hk1] at e
      by_cases ej : j = k - 1
      · subst ej; exact e
      · have := (List.pairwise_iff_getElem.1 h) j (k - 1) (by omega) hk1 (by omega)
        exact lessT_ntrans _ _ _ e this
  · exact s3 a ha b hb
/-- sorted, one by one -/
def srtM (xs : List (List Int)) : List (List Int) := xs.foldl insT []
theorem srtM_snoc (xs : List (List Int)) (t : List Int) : srtM (xs ++ [t]) = insT (srtM xs) t := by simp [srtM, List.foldl_append]
theorem srtM_ok (xs : List (List Int)) : (srtM xs).Perm xs ∧ SrtP (srtM xs) := by
  have : ∀ n (xs : List (List Int)), xs.length = n → (srtM xs).Perm xs ∧ SrtP (srtM xs) := fun n => by
    induction n with
    | zero =>
      intro xs h
      obtain rfl := List.length_eq_zero_iff.1 h
      exact ⟨.nil, .nil⟩
    | succ n ih =>
      intro xs h
      have hne : xs ≠ [] := by rintro rfl; simp at h
      have e := (List.dropLast_concat_getLast hne).symm
      rw [e]
      obtain ⟨h1, h2⟩ := ih xs.dropLast (by simp [h])
      rw [srtM_snoc]
      refine ⟨(insT_perm _ _).trans ?_, insT_srt h2 _⟩
      refine (List.Perm.cons _ h1).trans ?_
      exact (List.perm_append_singleton _ _).symm
  exact this _ xs rfl
theorem srtM_len (xs : List (List Int)) : (srtM xs).length = xs.length := (srtM_ok xs).1.length_eq
end Go.Proofs.Ytldlochhiiogbaa
