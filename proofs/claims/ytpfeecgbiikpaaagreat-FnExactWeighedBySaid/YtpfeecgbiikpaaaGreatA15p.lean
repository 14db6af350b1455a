/-
  Linear forms of terms: the plain law.
-/
import Derived.Test.YtpfeecgbiikpaaaGreatA05p
namespace Go.Proofs.YtpfeecgbiikpaaaGreat
open Go Go.Lg
set_option linter.unusedSimpArgs false
set_option linter.unusedVariables false
def argU (rs t : List Int) (j : Nat) : List Int := subS rs t (nthB rs t 1 j)
theorem argU_sub {rs t : List Int} (h : TermOkP rs t) {a : Nat} (ha : a < t.length) {j : Nat} (hj : j < (arS rs (t.getD a default)).toNat) : argU rs (subS rs t a) j = subS rs t (nthB rs t (a + 1) j) := (sub_sub h ha).2 j hj
theorem subS_zeroU {rs t : List Int} (h : TermOkP rs t) : subS rs t 0 = t := by
  have h0 := h.2.2
  unfold subS
  rw [List.drop_zero, h0]
  simp
theorem argU_ok {rs t : List Int} (h : TermOkP rs t) {j : Nat} (hj : j < (arS rs (t.getD 0 default)).toNat) : TermOkP rs (argU rs t j) ∧ (argU rs t j).length < t.length := by
  have h1 := nthB_lt h (show 0 < t.length from h.2.1.1) hj
  have h2 := subS_ok h h1.2
  refine ⟨h2, ?_⟩
  have h3 := subS_len h h1.2
  have h4 := endS_ge h h1.2
  unfold argU
  simp only [Nat.zero_add] at *
  omega
def partsU (rs t : List Int) (j : Nat) : List (List Int) := (List.range j).map (argU rs t)
theorem partsU_len (rs t : List Int) (j : Nat) : (partsU rs t j).length = j := by simp [partsU]
theorem partsU_succ (rs t : List Int) (j : Nat) : partsU rs t (j + 1) = partsU rs t j ++ [argU rs t j] := by simp [partsU, List.range_succ]
theorem partsU_get (rs t : List Int) {j k : Nat} (h : j < k) : (partsU rs t k).getD j default = argU rs t j := by simp [partsU, List.getD, h]
def MF : Int := 1000000000000
def padC (cs : List Int) (n : Nat) : List Int := cs ++ List.replicate (n - cs.length) 0
def addJ (cs ds : List Int) (c : Int) : Nat → List Int
  | 0 => padC cs ds.length
  | j + 1 => (addJ cs ds c j).set j ((addJ cs ds c j).getD j default + c * ds.getD j default)
def zeroF : PolyT := ⟨0, []⟩
def addF (o a : PolyT) (c : Int) : PolyT := ⟨o.const + c * a.const, addJ o.coef a.coef c a.coef.length⟩
def varF (n : Int) : PolyT := ⟨0, (List.replicate (-n).toNat 0).set (-1 - n).toNat 1⟩
def okF (o : PolyT) : Prop := (∀ x ∈ o.coef, x ≤ MF) ∧ o.const ≤ MF
def sumF (F : Nat → PolyT × Bool) (p : PolyT) : Nat → PolyT
  | 0 => ⟨p.const, []⟩
  | k + 1 => addF (sumF F p k) (F k).1 (p.coef.getD k default)
open Classical in
noncomputable def appF1 (F : Nat → PolyT × Bool) (p : PolyT) (n : Nat) : PolyT × Bool := if (∀ j < n, (F j).2 = true) ∧ okF (sumF F p n) then (sumF F p n, true) else (zeroF, false)
noncomputable def formM (rs : List Int) (ps : List PolyT) : Nat → List Int → PolyT × Bool
  | 0, _ => (zeroF, false)
  | f + 1, t => if t.getD 0 default < 0 then (varF (t.getD 0 default), true) else appF1 (fun j => formM rs ps f (argU rs t j)) (ps.getD (t.getD 0 default).toNat default) (arS rs (t.getD 0 default)).toNat
theorem appF1_yes {F : Nat → PolyT × Bool} {p : PolyT} {n : Nat} (h : (∀ j < n, (F j).2 = true) ∧ okF (sumF F p n)) : appF1 F p n = (sumF F p n, true) := if_pos h
theorem appF1_no {F : Nat → PolyT × Bool} {p : PolyT} {n : Nat} (h : ¬ ((∀ j < n, (F j).2 = true) ∧ okF (sumF F p n))) : appF1 F p n = (zeroF, false) := if_neg h
theorem formM_var {rs : List Int} {ps : List PolyT} {f : Nat} {t : List Int} (h : t.getD 0 default < 0) : formM rs ps (f + 1) t = (varF (t.getD 0 default), true) := if_pos h
theorem formM_app {rs : List Int} {ps : List PolyT} {f : Nat} {t : List Int} (h : ¬ t.getD 0 default < 0) : formM rs ps (f + 1) t = appF1 (fun j => formM rs ps f (argU rs t j)) (ps.getD (t.getD 0 default).toNat default) (arS rs (t.getD 0 default)).toNat := if_neg h
/-- reckoning with coefficients -/
theorem padC_len (cs : List Int) (n : Nat) : (padC cs n).length = max cs.length n := by
  unfold padC; rw [List.length_append, List.length_replicate]; omega
theorem addJ_len (cs ds : List Int) (c : Int) : ∀ j, (addJ cs ds c j).length = max cs.length ds.length
  | 0 => padC_len _ _
  | j + 1 => by simp only [addJ, List.length_set, addJ_len cs ds c j]
theorem padC_get (cs : List Int) (n i : Nat) : (padC cs n).getD i default = cs.getD i default := by
  unfold padC
  simp only [List.getD_eq_getElem?_getD]
  rcases Nat.lt_or_ge i cs.length with h | h
  · rw [List.getElem?_append_left h]
  · rw [List.getElem?_append_right h, List.getElem?_eq_none h, List.getElem?_replicate]
    split <;> rfl
theorem getD_set_if (l : List Int) (j i : Nat) (x : Int) : (l.set j x).getD i default = if j = i ∧ j < l.length then x else l.getD i default := by
  simp only [List.getD_eq_getElem?_getD, List.getElem?_set]
  by_cases h : j = i
  · subst h
    by_cases h2 : j < l.length
    · simp [h2]
    · simp [h2, List.getElem?_eq_none (Nat.not_lt.1 h2)]
  · simp [h]
theorem addJ_get (cs ds : List Int) (c : Int) : ∀ j, j ≤ ds.length → ∀ i, (addJ cs ds c j).getD i default = cs.getD i default + if i < j then c * ds.getD i default else 0
  | 0, _, i => by rw [addJ, padC_get, if_neg (Nat.not_lt_zero _), Int.add_zero]
  | j + 1, hj, i => by
    have ih := addJ_get cs ds c j (by omega)
    simp only [addJ, getD_set_if, addJ_len, ih]
    by_cases h : j = i
    · subst h
      rw [if_pos ⟨rfl, by omega⟩, if_neg (by omega), if_pos (by omega)]
      omega
    · rw [if_neg (fun e => h e.1)]
      by_cases h2 : i < j
      · rw [if_pos h2, if_pos (by omega)]
      · rw [if_neg h2, if_neg (by omega)]
theorem addJ_past (cs ds : List Int) (c : Int) {j : Nat} (hj : ds.length ≤ j) : ds.getD j default = 0 := by
  rw [List.getD_eq_getElem?_getD, List.getElem?_eq_none hj]; rfl
/-- the list of the specification's loop -/
def specJ (cs ds : List Int) (c : Int) (i : Nat) : List Int := (addJ cs ds c i).take (max cs.length i)
def specL (cs ds : List Int) (c : Int) (i : Nat) : List Int := (addJ cs ds c i).take (max cs.length (i + 1))
theorem specJ_len (cs ds : List Int) (c : Int) {i : Nat} (h : i ≤ ds.length) : (specJ cs ds c i).length = max cs.length i := by unfold specJ; rw [List.length_take, addJ_len]; omega
theorem specL_len (cs ds : List Int) (c : Int) {i : Nat} (h : i < ds.length) : (specL cs ds c i).length = max cs.length (i + 1) := by unfold specL; rw [List.length_take, addJ_len]; omega
theorem specJ_zero (cs ds : List Int) (c : Int) : specJ cs ds c 0 = cs := by
  unfold specJ addJ padC
  rw [show max cs.length 0 = cs.length by omega, List.take_left]
theorem specJ_pad (cs ds : List Int) (c : Int) {i : Nat} (h : i < ds.length) (hc : cs.length ≤ i) : specJ cs ds c i ++ [0] = specL cs ds c i := by
  unfold specJ specL
  rw [show max cs.length i = i by omega, show max cs.length (i + 1) = i + 1 by omega, List.take_succ_eq_append_getElem (by rw [addJ_len]; omega)]
  congr 2
  have h1 := addJ_get cs ds c i (by omega) i
  rw [if_neg (by omega), List.getD_eq_getElem?_getD, List.getElem?_eq_getElem (by rw [addJ_len]; omega), Option.getD_some, List.getD_eq_getElem?_getD, List.getElem?_eq_none hc] at h1
  rw [h1]; rfl
theorem specJ_stay (cs ds : List Int) (c : Int) {i : Nat} (hc : i < cs.length) : specJ cs ds c i = specL cs ds c i := by
  unfold specJ specL
  rw [show max cs.length i = max cs.length (i + 1) by omega]
theorem specL_get (cs ds : List Int) (c : Int) (i : Nat) : (specL cs ds c i).getD i default = (addJ cs ds c i).getD i default := by
  unfold specL
  rw [List.getD_eq_getElem?_getD, List.getD_eq_getElem?_getD, List.getElem?_take, if_pos (by omega)]
theorem specL_set (cs ds : List Int) (c : Int) (i : Nat) : (specL cs ds c i).set i ((specL cs ds c i).getD i default + c * ds.getD i default) = specJ cs ds c (i + 1) := by
  rw [specL_get]
  unfold specL specJ
  rw [addJ, List.take_set]
theorem specJ_end (cs ds : List Int) (c : Int) : specJ cs ds c ds.length = addJ cs ds c ds.length := by
  unfold specJ
  rw [List.take_of_length_le (by rw [addJ_len]; omega)]
open Classical in
noncomputable def addR (a b : PolyT) (c : Int) : PolyT × Bool := if ∀ x ∈ (addF a b c).coef, x ≤ MF then (addF a b c, tst ((addF a b c).const ≤ MF)) else (zeroF, false)
theorem addR_yes {a b : PolyT} {c : Int} (h : ∀ x ∈ (addF a b c).coef, x ≤ MF) : addR a b c = (addF a b c, tst ((addF a b c).const ≤ MF)) := if_pos h
theorem addR_no {a b : PolyT} {c : Int} (h : ¬ ∀ x ∈ (addF a b c).coef, x ≤ MF) : addR a b c = (zeroF, false) := if_neg h
theorem addR_ok {a b : PolyT} {c : Int} : (addR a b c).2 = true ↔ okF (addF a b c) := by
  by_cases h : ∀ x ∈ (addF a b c).coef, x ≤ MF
  · rw [addR_yes h]
    exact ⟨fun e => ⟨h, tst_iff.1 e⟩, fun e => tst_true e.2⟩
  · rw [addR_no h]
    exact ⟨fun e => absurd e (by simp), fun e => absurd e.1 h⟩
/-- bounds -/
def GoodB (B : Int) (o : PolyT) : Prop := (0 ≤ o.const ∧ o.const ≤ B) ∧ (∀ x ∈ o.coef, 0 ≤ x ∧ x ≤ B) ∧ o.coef.length ≤ 24
def PolyOkP (n : Int) (p : PolyT) : Prop := ((p.coef.length : Int) = n ∧ 0 ≤ p.const ∧ p.const ≤ 9) ∧ ∀ x ∈ p.coef, 0 ≤ x ∧ x ≤ 9
def PolysOkP (rs : List Int) (ps : List PolyT) : Prop := (SigOkP rs ∧ ps.length = rs.length) ∧ ∀ f < ps.length, PolyOkP (rs.getD f default) (ps.getD f default)
theorem mem_getD {xs : List Int} {P : Int → Prop} (h0 : P 0) (h : ∀ x ∈ xs, P x) (i : Nat) : P (xs.getD i default) := by
  rcases Nat.lt_or_ge i xs.length with h1 | h1
  · exact h _ (getD_mem xs i h1)
  · rw [List.getD_eq_getElem?_getD, List.getElem?_eq_none h1]; exact h0
theorem all_getD {xs : List Int} {P : Int → Prop} (h : ∀ i < xs.length, P (xs.getD i default)) : ∀ x ∈ xs, P x := fun x hx => by
  obtain ⟨j, hj, rfl⟩ := List.getElem_of_mem hx
  have := h j hj
  rwa [List.getD_eq_getElem?_getD, List.getElem?_eq_getElem hj] at this
theorem good_add {B B' : Int} {o a : PolyT} {c : Int} (ho : GoodB B o) (ha : GoodB B' a) (hc : 0 ≤ c ∧ c ≤ 9) (hB : 0 ≤ B) (hB' : 0 ≤ B') : GoodB (B + 9 * B') (addF o a c) := by
  have hmul : ∀ x, 0 ≤ x ∧ x ≤ B' → 0 ≤ c * x ∧ c * x ≤ 9 * B' := fun x hx => ⟨Int.mul_nonneg hc.1 hx.1, Int.mul_le_mul hc.2 hx.2 hx.1 (by omega)⟩
  refine ⟨?_, all_getD fun i _ => ?_, ?_⟩
  · have := hmul _ ha.1; have := ho.1
    show 0 ≤ o.const + c * a.const ∧ o.const + c * a.const ≤ B + 9 * B'
    omega
  · show 0 ≤ (addJ o.coef a.coef c a.coef.length).getD i default ∧ (addJ o.coef a.coef c a.coef.length).getD i default ≤ B + 9 * B'
    rw [addJ_get _ _ _ _ (Nat.le_refl _)]
    have h1 := mem_getD (P := fun x => 0 ≤ x ∧ x ≤ B) ⟨Int.le_refl _, hB⟩ ho.2.1 i
    have h2 := hmul _ (mem_getD (P := fun x => 0 ≤ x ∧ x ≤ B') ⟨Int.le_refl _, hB'⟩ ha.2.1 i)
    split <;> omega
  · show (addJ o.coef a.coef c a.coef.length).length ≤ 24
    rw [addJ_len]
    have := ho.2.2; have := ha.2.2; omega
theorem good_le {B B' : Int} {o : PolyT} (h : GoodB B o) (hB : B ≤ B') : GoodB B' o := ⟨⟨h.1.1, by have := h.1.2; omega⟩, fun x hx => ⟨(h.2.1 x hx).1, by have := (h.2.1 x hx).2; omega⟩, h.2.2⟩
theorem coef_get {n : Int} {p : PolyT} (h : PolyOkP n p) (k : Nat) : 0 ≤ p.coef.getD k default ∧ p.coef.getD k default ≤ 9 := mem_getD (P := fun x => 0 ≤ x ∧ x ≤ 9) ⟨Int.le_refl _, by decide⟩ h.2 k
theorem good_sum {F : Nat → PolyT × Bool} {p : PolyT} {m : Int} (hp : PolyOkP m p) : ∀ n, (∀ j < n, GoodB MF (F j).1) → GoodB (9 + 9 * MF * n) (sumF F p n)
  | 0, _ => ⟨⟨hp.1.2.1, by show p.const ≤ 9 + 9 * MF * ((0 : Nat) : Int); have := hp.1.2.2; simp only [MF]; omega⟩, (fun x hx => by cases hx), by simp [sumF]⟩
  | n + 1, h => by
    have ih := good_sum hp n fun j hj => h j (by omega)
    have h1 := good_add ih (h n (by omega)) (coef_get hp n) (by simp only [MF]; omega) (by decide)
    refine good_le h1 ?_
    simp only [MF]; omega
theorem ok_less {B B' : Int} {o a : PolyT} {c : Int} (ho : GoodB B o) (ha : GoodB B' a) (hB' : 0 ≤ B') (hc : 0 ≤ c) (h : okF (addF o a c)) : okF o := by
  have hmul : ∀ x, 0 ≤ x ∧ x ≤ B' → 0 ≤ c * x := fun x hx => Int.mul_nonneg hc hx.1
  refine ⟨all_getD fun i hi => ?_, ?_⟩
  · have h1 : (addJ o.coef a.coef c a.coef.length).getD i default ≤ MF := h.1 _ (getD_mem _ i (by show i < (addJ o.coef a.coef c a.coef.length).length; rw [addJ_len]; omega))
    rw [addJ_get _ _ _ _ (Nat.le_refl _)] at h1
    have h2 := hmul _ (mem_getD (P := fun x => 0 ≤ x ∧ x ≤ B') ⟨Int.le_refl _, hB'⟩ ha.2.1 i)
    split at h1 <;> omega
  · have h1 : o.const + c * a.const ≤ MF := h.2
    have := hmul _ ha.1
    omega
theorem ok_sum {F : Nat → PolyT × Bool} {p : PolyT} {m : Int} (hp : PolyOkP m p) {n : Nat} (h : ∀ j < n, GoodB MF (F j).1) (hok : okF (sumF F p n)) : ∀ k ≤ n, okF (sumF F p k) := by
  induction n with
  | zero => intro k hk; rwa [show k = 0 by omega]
  | succ n ih =>
    intro k hk
    rcases Nat.lt_or_ge k (n + 1) with h1 | h1
    · exact ih (fun j hj => h j (by omega)) (ok_less (good_sum hp n fun j hj => h j (by omega)) (h n (by omega)) (by decide) (coef_get hp n).1 hok) k (by omega)
    · rwa [show k = n + 1 by omega]
theorem okF_zero {p : PolyT} {m : Int} (hp : PolyOkP m p) : okF ⟨p.const, []⟩ := ⟨(fun x hx => by cases hx), by show p.const ≤ MF; have := hp.1.2.2; simp only [MF]; omega⟩
theorem good_var {n : Int} (h0 : n < 0) (h1 : -24 ≤ n) : GoodB MF (varF n) := by
  refine ⟨⟨Int.le_refl _, by show (0 : Int) ≤ MF; decide⟩, fun x hx => ?_, ?_⟩
  · rcases List.mem_or_eq_of_mem_set hx with h | rfl
    · rw [(List.mem_replicate.1 h).2]; decide
    · decide
  · show ((List.replicate (-n).toNat (0 : Int)).set (-1 - n).toNat 1).length ≤ 24
    rw [List.length_set, List.length_replicate]; omega
theorem good_zero : GoodB MF zeroF := ⟨⟨Int.le_refl _, by show (0 : Int) ≤ MF; decide⟩, (fun x hx => by cases hx), by simp [zeroF]⟩
theorem good_app {F : Nat → PolyT × Bool} {p : PolyT} {m : Int} (hp : PolyOkP m p) {n : Nat} (h : ∀ j < n, GoodB MF (F j).1) : GoodB MF (appF1 F p n).1 := by
  rcases Classical.em ((∀ j < n, (F j).2 = true) ∧ okF (sumF F p n)) with h1 | h1
  · rw [appF1_yes h1]
    have h2 := good_sum hp n h
    exact ⟨⟨h2.1.1, h1.2.2⟩, fun x hx => ⟨(h2.2.1 x hx).1, h1.2.1 x hx⟩, h2.2.2⟩
  · rw [appF1_no h1]; exact good_zero
theorem poly_at {rs : List Int} {ps : List PolyT} (h : PolysOkP rs ps) {n : Int} (h0 : 0 ≤ n) (h1 : n < rs.length) : PolyOkP (arS rs n) (ps.getD n.toNat default) := by
  rw [arS_sym (by omega)]
  exact h.2 n.toNat (by rw [h.1.2]; omega)
theorem form_good {rs : List Int} {ps : List PolyT} (hP : PolysOkP rs ps) : ∀ f t, TermOkP rs t → GoodB MF (formM rs ps f t).1
  | 0, _, _ => good_zero
  | f + 1, t, ht => by
    have hl := ht.low (show 0 < t.length from ht.2.1.1)
    by_cases h : t.getD 0 default < 0
    · rw [formM_var h]; exact good_var h hl.1.1
    · rw [formM_app h]
      exact good_app (poly_at hP (by omega) hl.1.2) fun j hj => form_good hP f _ (argU_ok ht hj).1
/-- one form is nowhere greater -/
def MostP (a b : PolyT) : Prop := ∀ i < a.coef.length, a.coef.getD i default ≤ b.coef.getD i default
end Go.Proofs.YtpfeecgbiikpaaaGreat
