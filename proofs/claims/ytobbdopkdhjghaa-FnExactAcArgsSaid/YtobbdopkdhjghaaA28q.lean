/-
  Sorted forms modulo associativity and commutativity: parts, building, forms.
-/
import Derived.Test.YtobbdopkdhjghaaA28p
namespace Go.Proofs.Ytobbdopkdhjghaa
open Go Go.Lg
set_option linter.unusedVariables false
def argT (rs t : List Int) (j : Nat) : List Int := subS rs t (nthB rs t 1 j)
theorem argT_ok {rs t : List Int} (h : TermOkP rs t) {j : Nat} (hj : j < (arS rs (t.getD 0 default)).toNat) : TermOkP rs (argT rs t j) ∧ (argT rs t j).length < t.length := by
  have hl := h.2.1
  have h1 := nthB_lt h (show 0 < t.length by omega) hj
  simp only [Nat.zero_add] at h1
  have h2 := subS_len h h1.2
  have h3 := endS_ge h h1.2
  refine ⟨subS_ok h h1.2, ?_⟩
  unfold argT
  omega
theorem argT_sum {rs t : List Int} (h : TermOkP rs t) {j : Nat} (hj : j < (arS rs (t.getD 0 default)).toNat) : nthB rs t 1 (j + 1) = nthB rs t 1 j + (argT rs t j).length := by
  have hl := h.2.1
  have := subS_nth h (show 0 < t.length by omega) hj
  simpa [argT] using this
def partsM (rs : List Int) (f : Int) : Nat → List Int → List (List Int)
  | 0, _ => []
  | k + 1, u => if u.getD 0 default = f then partsM rs f k (argT rs u 0) ++ partsM rs f k (argT rs u 1) else [u]
theorem partsM_fuel {rs : List Int} {f : Int} (hf : arS rs f = 2) : ∀ (k k' : Nat) (u : List Int), TermOkP rs u → u.length ≤ k → u.length ≤ k' → partsM rs f k u = partsM rs f k' u
  | 0, _, u, h, h1, _ => by have := h.2.1; omega
  | _ + 1, 0, u, h, _, h2 => by have := h.2.1; omega
  | k + 1, k' + 1, u, h, h1, h2 => by
    unfold partsM
    split
    · rename_i e
      have a0 := argT_ok h (j := 0) (by rw [e, hf]; decide)
      have a1 := argT_ok h (j := 1) (by rw [e, hf]; decide)
      rw [partsM_fuel hf k k' _ a0.1 (by omega) (by omega), partsM_fuel hf k k' _ a1.1 (by omega) (by omega)]
    · rfl
def partsT (rs : List Int) (f : Int) (u : List Int) : List (List Int) := partsM rs f u.length u
theorem partsT_yes {rs : List Int} {f : Int} (hf : arS rs f = 2) {u : List Int} (h : TermOkP rs u) (e : u.getD 0 default = f) : partsT rs f u = partsT rs f (argT rs u 0) ++ partsT rs f (argT rs u 1) := by
  have hl := h.2.1
  have a0 := argT_ok h (j := 0) (by rw [e, hf]; decide)
  have a1 := argT_ok h (j := 1) (by rw [e, hf]; decide)
  unfold partsT
  rw [show u.length = (u.length - 1) + 1 by omega]
  conv => lhs; unfold partsM
  rw [if_pos e, partsM_fuel hf (u.length - 1) _ _ a0.1 (by omega) (Nat.le_refl _), partsM_fuel hf (u.length - 1) _ _ a1.1 (by omega) (Nat.le_refl _)]
theorem partsT_no {rs : List Int} {f : Int} {u : List Int} (h : TermOkP rs u) (e : ¬ u.getD 0 default = f) : partsT rs f u = [u] := by
  have hl := h.2.1
  unfold partsT
  rw [show u.length = (u.length - 1) + 1 by omega]
  unfold partsM
  rw [if_neg e]
theorem partsT_ok {rs : List Int} {f : Int} (hf : arS rs f = 2) : ∀ (n : Nat) (u : List Int), TermOkP rs u → u.length ≤ n → (∀ x ∈ partsT rs f u, TermOkP rs x ∧ x.length ≤ u.length ∧ (u.getD 0 default = f → x.length < u.length) ∧ x.getD 0 default ≠ f) ∧ ((partsT rs f u).map List.length).sum + (partsT rs f u).length = u.length + 1 ∧ 1 ≤ (partsT rs f u).length
  | 0, u, h, hn => by have := h.2.1; omega
  | n + 1, u, h, hn => by
    by_cases e : u.getD 0 default = f
    · have h0 : 0 < (arS rs (u.getD 0 default)).toNat := by rw [e, hf]; decide
      have h1 : 1 < (arS rs (u.getD 0 default)).toNat := by rw [e, hf]; decide
      have a0 := argT_ok h h0
      have a1 := argT_ok h h1
      have s0 := argT_sum h h0
      have s1 := argT_sum h h1
      simp only [nthB] at s0 s1
      have i0 := partsT_ok hf n _ a0.1 (by omega)
      have i1 := partsT_ok hf n _ a1.1 (by omega)
      have hend : nthB rs u 1 2 = u.length := by
        have hl := h.2.1
        obtain ⟨p, l, r, e2, hp, _, hfl⟩ := args_cut h (show 0 < u.length by omega)
        obtain rfl : p = [] := List.length_eq_zero_iff.1 hp
        have hu : Fl rs 1 (u.getD 0 default :: l) := by
          have : Fl rs (0 + 1) (u.getD 0 default :: l) := .cons (by rw [e, hf]; decide) (by rw [Nat.zero_add]; exact hfl)
          rwa [Nat.zero_add] at this
        obtain ⟨_, rfl⟩ := (termOk_fl h).pre hu (r := r) (by simpa using e2)
        obtain ⟨l1, l2, rfl, c1, c2, c3⟩ := Fl.cut [u.getD 0 default] [] 2 _ l hfl (by rw [e, hf]; decide)
        rw [e, hf] at c2
        obtain rfl : l2 = [] := Fl.zero c2
        have e3 : [u.getD 0 default] ++ (l1 ++ [] ++ []) = u := by rw [e2]; simp
        rw [e3] at c3
        have e4 : u.length = l1.length + 1 := by
          have := congrArg List.length e3
          simpa using this.symm
        simp at c3 ⊢
        omega
      rw [partsT_yes hf h e]
      simp only [List.map_append, List.sum_append, List.length_append, List.mem_append]
      have hn2 : nthB rs u 1 2 = nthB rs u 1 1 + (argT rs u 1).length := s1
      have hn1 : nthB rs u 1 1 = 1 + (argT rs u 0).length := s0
      refine ⟨fun x hx => ?_, by omega, by omega⟩
      rcases hx with hx | hx
      · obtain ⟨x1, x2, _, x4⟩ := i0.1 x hx
        exact ⟨x1, by omega, fun _ => by omega, x4⟩
      · obtain ⟨x1, x2, _, x4⟩ := i1.1 x hx
        exact ⟨x1, by omega, fun _ => by omega, x4⟩
    · rw [partsT_no h e]
      refine ⟨fun x hx => ?_, by simp, by simp⟩
      obtain rfl := List.mem_singleton.1 hx
      exact ⟨h, Nat.le_refl _, fun e' => absurd e' e, e⟩
theorem parts_len {rs : List Int} {f : Int} (hf : arS rs f = 2) {u : List Int} (h : TermOkP rs u) : (partsT rs f u).length ≤ 30 := by
  obtain ⟨h4, h1, _⟩ := partsT_ok hf u.length u h (Nat.le_refl _)
  have h2 := h.2.1.2
  have h5 : ∀ ps : List (List Int), (∀ x ∈ ps, 1 ≤ x.length) → ps.length ≤ (ps.map List.length).sum := fun ps => by
    induction ps with
    | nil => intro _; exact Nat.le_refl _
    | cons p r ih =>
      intro h
      have a1 := ih fun x hx => h x (List.mem_cons_of_mem _ hx)
      have a2 := h p List.mem_cons_self
      simp only [List.length_cons, List.map_cons, List.sum_cons]; omega
  have h6 := h5 (partsT rs f u) fun x hx => (h4 x hx).1.2.1.1
  omega
/-- the first arguments' parts -/
def partsU (rs : List Int) (f : Int) (t : List Int) : Nat → List (List Int)
  | 0 => []
  | j + 1 => partsU rs f t j ++ partsT rs f (argT rs t j)
theorem partsU_two {rs : List Int} {f : Int} (hf : arS rs f = 2) {t : List Int} (h : TermOkP rs t) (e : t.getD 0 default = f) : partsU rs f t 2 = partsT rs f t := by
  rw [partsT_yes hf h e]; simp [partsU]
theorem take_snocQ {α : Type} [Inhabited α] (xs : List α) (i : Nat) (h : i < xs.length) : xs.take (i + 1) = xs.take i ++ [xs.getD i default] := by
  rw [List.take_add_one, List.getElem?_eq_getElem h]
  simp [List.getD, List.getElem?_eq_getElem h]
/-- right-associated -/
def buildU (f : Int) (ps : List (List Int)) : Nat → List Int
  | 0 => []
  | i + 1 => buildU f ps i ++ ((if i + 1 < ps.length then [f] else []) ++ ps.getD i default)
def buildM (f : Int) (ps : List (List Int)) : List Int := buildU f ps ps.length
theorem buildU_len (f : Int) (ps : List (List Int)) : ∀ i, i ≤ ps.length → (buildU f ps i).length + (if i < ps.length then 0 else if i = 0 then 0 else 1) = ((ps.take i).map List.length).sum + i
  | 0, _ => by simp [buildU]
  | i + 1, hi => by
    have ih := buildU_len f ps i (by omega)
    rw [if_pos (by omega)] at ih
    rw [take_snocQ ps i (by omega)]
    simp only [buildU, List.length_append, List.map_append, List.sum_append, List.map_cons, List.map_nil, List.sum_cons, List.sum_nil]
    by_cases h : i + 1 < ps.length
    · rw [if_pos h, if_pos h]; simp only [List.length_cons, List.length_nil]; omega
    · rw [if_neg h, if_neg h, if_neg (by omega)]; simp only [List.length_nil]; omega
theorem buildM_len (f : Int) (ps : List (List Int)) (h : ps ≠ []) : (buildM f ps).length + 1 = (ps.map List.length).sum + ps.length := by
  have := buildU_len f ps ps.length (Nat.le_refl _)
  have h0 : ps.length ≠ 0 := fun e => h (List.length_eq_zero_iff.1 e)
  rw [if_neg (by omega), if_neg h0, List.take_length] at this
  exact this
/-- the heads and the arguments' forms -/
def formU (F : List Int → List Int) (rs t : List Int) : Nat → List Int
  | 0 => [t.getD 0 default]
  | j + 1 => formU F rs t j ++ F (argT rs t j)
def formM (rs ac : List Int) : Nat → List Int → List Int
  | 0, _ => []
  | k + 1, t => if t.getD 0 default ∈ ac then buildM (t.getD 0 default) (srtM ((partsT rs (t.getD 0 default) t).map (formM rs ac k))) else formU (formM rs ac k) rs t (arS rs (t.getD 0 default)).toNat
theorem map_len {F : List Int → List Int} : ∀ {ps : List (List Int)}, (∀ x ∈ ps, (F x).length ≤ x.length) → ((ps.map F).map List.length).sum ≤ (ps.map List.length).sum
  | [], _ => Nat.le_refl _
  | p :: ps, h => by
    have h1 := h p List.mem_cons_self
    have := map_len (ps := ps) fun x hx => h x (List.mem_cons_of_mem _ hx)
    simp only [List.map_cons, List.sum_cons]; omega
theorem srtM_sum (xs : List (List Int)) : ((srtM xs).map List.length).sum = (xs.map List.length).sum := ((srtM_ok xs).1.map _).sum_nat
theorem formM_len {rs ac : List Int} (hac : ∀ f ∈ ac, arS rs f = 2) : ∀ (k : Nat) (t : List Int), TermOkP rs t → t.length ≤ k → (formM rs ac k t).length ≤ t.length
  | 0, t, h, hk => by have := h.2.1; omega
  | k + 1, t, h, hk => by
    have hl := h.2.1
    unfold formM
    split
    · rename_i hm
      have hf := hac _ hm
      obtain ⟨o1, o2, o3⟩ := partsT_ok hf t.length t h (Nat.le_refl _)
      have hsum := map_len (F := formM rs ac k) (ps := partsT rs (t.getD 0 default) t) fun x hx => formM_len hac k x (o1 x hx).1 (by have := (o1 x hx).2.2.1 rfl; omega)
      have hb := buildM_len (t.getD 0 default) (srtM ((partsT rs (t.getD 0 default) t).map (formM rs ac k))) (fun e => by
        have := srtM_len ((partsT rs (t.getD 0 default) t).map (formM rs ac k))
        rw [e, List.length_map, List.length_nil] at this
        omega)
      rw [srtM_sum, srtM_len, List.length_map] at hb
      omega
    · have key : ∀ j, j ≤ (arS rs (t.getD 0 default)).toNat → (formU (formM rs ac k) rs t j).length ≤ nthB rs t 1 j := fun j => by
        induction j with
        | zero => intro _; simp [formU, nthB]
        | succ j ih =>
          intro hj
          have a := argT_ok h (show j < _ by omega)
          have s := argT_sum h (show j < _ by omega)
          have := formM_len hac k _ a.1 (by omega)
          simp only [formU, List.length_append]
          have := ih (by omega)
          omega
      have h1 := key _ (Nat.le_refl _)
      have h2 := nthB_le h (show 0 < t.length by omega) (Nat.le_refl (arS rs (t.getD 0 default)).toNat)
      simp only [Nat.zero_add] at h2
      omega
theorem formU_len {rs ac : List Int} (hac : ∀ f ∈ ac, arS rs f = 2) {k : Nat} {t : List Int} (h : TermOkP rs t) (hk : t.length ≤ k + 1) : ∀ j, j ≤ (arS rs (t.getD 0 default)).toNat → (formU (formM rs ac k) rs t j).length ≤ 60 := fun j => by
  have hl := h.2.1
  intro hj
  have key : ∀ j, j ≤ (arS rs (t.getD 0 default)).toNat → (formU (formM rs ac k) rs t j).length ≤ nthB rs t 1 j := fun j => by
    induction j with
    | zero => intro _; simp [formU, nthB]
    | succ j ih =>
      intro hj
      have a := argT_ok h (show j < _ by omega)
      have s := argT_sum h (show j < _ by omega)
      have := formM_len hac k _ a.1 (by omega)
      simp only [formU, List.length_append]
      have := ih (by omega)
      omega
  have h1 := key j hj
  have h2 := nthB_le h (show 0 < t.length by omega) hj
  simp only [Nat.zero_add] at h2
  omega
/-- the sorted parts' forms -/
def partsF (rs ac : List Int) (k : Nat) (t : List Int) : List (List Int) := srtM ((partsT rs (t.getD 0 default) t).map (formM rs ac k))
theorem sum_take_leQ (ps : List (List Int)) (i : Nat) : ((ps.take i).map List.length).sum ≤ (ps.map List.length).sum := by
  conv => rhs; rw [← List.take_append_drop i ps]
  rw [List.map_append, List.sum_append]; omega
theorem buildU_le (f : Int) (ps : List (List Int)) (i : Nat) (hi : i ≤ ps.length) : (buildU f ps i).length ≤ (ps.map List.length).sum + ps.length := by
  have h1 := buildU_len f ps i hi
  have h2 := sum_take_leQ ps i
  omega
theorem form_bounds {rs ac : List Int} (hac : ∀ f ∈ ac, arS rs f = 2) {k : Nat} {t : List Int} (hT : TermOkP rs t) (hk : t.length ≤ k + 1) (hm : t.getD 0 default ∈ ac) :
    (partsF rs ac k t).length ≤ 30 ∧ partsF rs ac k t ≠ [] ∧ ((partsF rs ac k t).map List.length).sum + (partsF rs ac k t).length ≤ 61 := by
  have hf := hac _ hm
  have hl := hT.2.1
  obtain ⟨o1, o2, o3⟩ := partsT_ok hf t.length t hT (Nat.le_refl _)
  have hp := parts_len hf hT
  have hsum := map_len (F := formM rs ac k) (ps := partsT rs (t.getD 0 default) t) fun x hx => formM_len hac k x (o1 x hx).1 (by have := (o1 x hx).2.2.1 rfl; omega)
  have e1 : (partsF rs ac k t).length = (partsT rs (t.getD 0 default) t).length := by unfold partsF; rw [srtM_len, List.length_map]
  have e2 : ((partsF rs ac k t).map List.length).sum = (((partsT rs (t.getD 0 default) t).map (formM rs ac k)).map List.length).sum := srtM_sum _
  refine ⟨by omega, fun e => ?_, by omega⟩
  rw [e, List.length_nil] at e1
  omega
end Go.Proofs.Ytobbdopkdhjghaa
