/-
  PairStepsOf: the plain law (what both sides read out of numbers).
-/
import Derived.Test.YtenjmepbaajkjaaTy
import Derived.Test.YtenjmepbaajkjaaLTy
namespace Go.Proofs.Ytenjmepbaajkjaa
open Go Go.Lg
def takeO : List Int → Option (List Int × List Int)
  | [] => none
  | n :: r => if 0 ≤ n ∧ n ≤ r.length then some (r.take n.toNat, r.drop n.toNat) else none
def polyO : Nat → List Int → Option (List PolyT × List Int)
  | 0, r => some ([], r)
  | _ + 1, [] => none
  | k + 1, c :: r => match takeO r with
    | none => none
    | some (cf, r1) => match polyO k r1 with
      | none => none
      | some (ps, r2) => some (⟨c, cf⟩ :: ps, r2)
def polysO : List Int → Option (List PolyT × List Int)
  | [] => none
  | n :: r => if 0 ≤ n then polyO n.toNat r else none
def stepO (r : List Int) : Option (PairStepT × List Int) := match takeO r with
  | none => none
  | some (a, r1) => match takeO r1 with
    | none => none
    | some (b, r2) => match polysO r2 with
      | none => none
      | some (c, r3) => match takeO r3 with
        | none => none
        | some (d, r4) => some (⟨a, b, c, d⟩, r4)
def stepsN : Nat → List Int → Option (List PairStepT)
  | _, [] => some []
  | 0, _ :: _ => none
  | f + 1, x :: r => match stepO (x :: r) with
    | none => none
    | some (s, r1) => (stepsN f r1).map (s :: ·)
theorem takeO_suf {r xs r1 : List Int} (h : takeO r = some (xs, r1)) : ∃ k, 1 ≤ k ∧ k ≤ r.length ∧ r1 = r.drop k ∧ xs.length + 1 = k := by
  cases r with
  | nil => cases h
  | cons n r =>
    simp only [takeO] at h
    split at h
    · rename_i hn
      obtain ⟨rfl, rfl⟩ := Prod.mk.inj (Option.some.inj h)
      refine ⟨n.toNat + 1, by omega, by simp only [List.length_cons]; omega, by simp, ?_⟩
      rw [List.length_take]; omega
    · cases h
theorem polyO_suf : ∀ (k : Nat) {r r1 : List Int} {ps : List PolyT}, polyO k r = some (ps, r1) → ∃ m, m ≤ r.length ∧ r1 = r.drop m ∧ 2 * k ≤ m ∧ mcPolyS ps ≤ m ∧ ps.length = k
  | 0, r, r1, ps, h => by
    obtain ⟨rfl, rfl⟩ := Prod.mk.inj (Option.some.inj h)
    exact ⟨0, by omega, rfl, by omega, Nat.zero_le _, rfl⟩
  | k + 1, [], r1, ps, h => by cases h
  | k + 1, c :: r, r1, ps, h => by
    simp only [polyO] at h
    cases h1 : takeO r with
    | none => rw [h1] at h; cases h
    | some p =>
      obtain ⟨cf, ra⟩ := p
      rw [h1] at h
      simp only at h
      cases h2 : polyO k ra with
      | none => rw [h2] at h; cases h
      | some q =>
        obtain ⟨qs, rb⟩ := q
        rw [h2] at h
        simp only at h
        obtain ⟨rfl, rfl⟩ := Prod.mk.inj (Option.some.inj h)
        obtain ⟨m1, a1, a2, rfl, a4⟩ := takeO_suf h1
        obtain ⟨m2, b1, rfl, b3, b4, b5⟩ := polyO_suf k h2
        rw [List.length_drop] at b1
        refine ⟨m1 + m2 + 1, by simp only [List.length_cons]; omega, by simp [List.drop_drop], by omega, ?_, by simp [b5]⟩
        simp only [mcPolyS, List.map_cons, List.sum_cons, mcInt64S] at b4 ⊢
        omega
theorem polysO_suf {r r1 : List Int} {ps : List PolyT} (h : polysO r = some (ps, r1)) : ∃ m, 1 ≤ m ∧ m ≤ r.length ∧ r1 = r.drop m ∧ mcPolyS ps ≤ m := by
  cases r with
  | nil => cases h
  | cons n r =>
    simp only [polysO] at h
    split at h
    · obtain ⟨m, h1, h2, _, h4, _⟩ := polyO_suf _ h
      exact ⟨m + 1, by omega, by simp only [List.length_cons]; omega, by simp [h2], by omega⟩
    · cases h
theorem polyO_none {k : Nat} {r : List Int} (h : r.length < 2 * k) : polyO k r = none := by
  cases hp : polyO k r with
  | none => rfl
  | some q =>
    obtain ⟨ps, r1⟩ := q
    obtain ⟨m, h1, _, h3, _⟩ := polyO_suf k hp
    omega
def mcStep (s : PairStepT) : Nat := mcInt64S s.part + (mcInt64S s.proj + (mcPolyS s.polys + (mcInt64S s.gone + 0)))
theorem stepO_suf {r r1 : List Int} {s : PairStepT} (h : stepO r = some (s, r1)) : ∃ m, 1 ≤ m ∧ m ≤ r.length ∧ r1 = r.drop m ∧ mcStep s ≤ m := by
  unfold stepO at h
  cases h1 : takeO r with
  | none => rw [h1] at h; cases h
  | some p =>
    obtain ⟨a, ra⟩ := p
    rw [h1] at h; simp only at h
    cases h2 : takeO ra with
    | none => rw [h2] at h; cases h
    | some p =>
      obtain ⟨b, rb⟩ := p
      rw [h2] at h; simp only at h
      cases h3 : polysO rb with
      | none => rw [h3] at h; cases h
      | some p =>
        obtain ⟨c, rc⟩ := p
        rw [h3] at h; simp only at h
        cases h4 : takeO rc with
        | none => rw [h4] at h; cases h
        | some p =>
          obtain ⟨d, rd⟩ := p
          rw [h4] at h; simp only at h
          obtain ⟨rfl, rfl⟩ := Prod.mk.inj (Option.some.inj h)
          obtain ⟨m1, a1, a2, rfl, a4⟩ := takeO_suf h1
          obtain ⟨m2, b1, b2, rfl, b4⟩ := takeO_suf h2
          obtain ⟨m3, c1, c2, rfl, c4⟩ := polysO_suf h3
          obtain ⟨m4, d1, d2, rfl, d4⟩ := takeO_suf h4
          simp only [List.length_drop] at *
          refine ⟨m1 + m2 + m3 + m4, by omega, by omega, by simp [List.drop_drop], ?_⟩
          simp only [mcStep, mcInt64S]
          omega
theorem stepsN_mc : ∀ (f : Nat) (r : List Int) (ss : List PairStepT), stepsN f r = some ss → mcPairStepS ss ≤ r.length
  | f, [], ss, h => by
    have : ss = [] := by cases f <;> simpa [stepsN] using h.symm
    subst this; exact Nat.le_refl _
  | 0, _ :: _, ss, h => by cases h
  | f + 1, x :: r, ss, h => by
    simp only [stepsN] at h
    cases h1 : stepO (x :: r) with
    | none => rw [h1] at h; cases h
    | some p =>
      obtain ⟨s, r1⟩ := p
      rw [h1] at h; simp only at h
      cases h2 : stepsN f r1 with
      | none => rw [h2] at h; cases h
      | some ss1 =>
        rw [h2] at h
        obtain rfl : s :: ss1 = ss := by simpa using h
        obtain ⟨m, a1, a2, rfl, a4⟩ := stepO_suf h1
        have ih := stepsN_mc f _ ss1 h2
        rw [List.length_drop] at ih
        have e : mcPairStepS (s :: ss1) = mcStep s + mcPairStepS ss1 := by
          simp only [mcPairStepS, mcStep, List.map_cons, List.sum_cons]
        rw [e]; omega
theorem stepsN_more : ∀ (f : Nat) (r : List Int), r.length ≤ f → ∀ g, f ≤ g → stepsN g r = stepsN f r
  | f, [], _, g, _ => by cases f <;> cases g <;> rfl
  | 0, _ :: _, h, _, _ => by simp at h
  | f + 1, x :: r, h, g, hg => by
    obtain ⟨g, rfl⟩ : ∃ g', g = g' + 1 := ⟨g - 1, by omega⟩
    simp only [stepsN]
    cases h1 : stepO (x :: r) with
    | none => rfl
    | some p =>
      obtain ⟨s, r1⟩ := p
      obtain ⟨m, a1, a2, rfl, a4⟩ := stepO_suf h1
      simp only
      rw [stepsN_more f _ (by rw [List.length_drop]; simp only [List.length_cons] at *; omega) g (by omega)]
def pairO (nums : List Int) : Option (List PairStepT) := if nums.length ≤ 200 then stepsN nums.length nums else none
def pairR (nums : List Int) : List PairStepT := (pairO nums).getD []
theorem pairR_mc (nums : List Int) : mcPairStepS (pairR nums) ≤ 200 := by
  unfold pairR pairO
  split
  · cases h : stepsN nums.length nums with
    | none => exact Nat.zero_le _
    | some ss => have := stepsN_mc _ _ _ h; simp only [Option.getD_some]; omega
  · exact Nat.zero_le _
/-! the spec's side: places -/
def takeS (nums : List Int) (a : Int) : Option (List Int × List Int) := if 0 ≤ a then takeO (nums.drop a.toNat) else none
def polyS (nums : List Int) (a : Int) : Option (List PolyT × List Int) := if 0 ≤ a then polysO (nums.drop a.toNat) else none
def place {α : Type} (nums : List Int) (o : Option (α × List Int)) : Int := match o with
  | none => -1
  | some (_, r) => nums.length - r.length
def valO {α : Type} (o : Option (List α × List Int)) : List α := match o with
  | none => []
  | some (x, _) => x
/-! the program's side: a reader -/
def listM (r : List Int) (o : Bool) : List Int × List Int × Bool := match takeO r with
  | some (xs, r1) => (xs, r1, o)
  | none => ([], r.tail, false)
def polyM : Nat → List Int → Bool → List PolyT → List PolyT × List Int × Bool
  | 0, r, o, acc => (acc, r, o)
  | k + 1, r, o, acc => if o = true then polyM k (listM r.tail (o && !r.isEmpty)).2.1 (listM r.tail (o && !r.isEmpty)).2.2 (acc ++ [⟨r.headD 0, (listM r.tail (o && !r.isEmpty)).1⟩]) else (acc, r, o)
def polysM (r : List Int) (o : Bool) : List PolyT × List Int × Bool := match r with
  | [] => ([], [], false)
  | n :: r => if 0 ≤ n ∧ n ≤ 200 then polyM n.toNat r o [] else ([], r, false)
theorem listM_some {r xs r1 : List Int} {o : Bool} (h : takeO r = some (xs, r1)) : listM r o = (xs, r1, o) := by simp [listM, h]
theorem listM_none {r : List Int} {o : Bool} (h : takeO r = none) : listM r o = ([], r.tail, false) := by simp [listM, h]
theorem listM_len (r : List Int) (o : Bool) : (listM r o).2.1.length + 1 ≤ r.length ∨ r = [] ∧ (listM r o).2.1 = [] := by
  cases h : takeO r with
  | none =>
    rw [listM_none h]
    cases r with
    | nil => exact .inr ⟨rfl, rfl⟩
    | cons x r => left; simp
  | some p =>
    obtain ⟨xs, r1⟩ := p
    rw [listM_some h]
    obtain ⟨k, h1, h2, rfl, _⟩ := takeO_suf h
    left
    simp only [List.length_drop]; omega
theorem listM_le (r : List Int) (o : Bool) : (listM r o).2.1.length ≤ r.length := by
  rcases listM_len r o with h | ⟨h, h2⟩
  · omega
  · rw [h2, h]; exact Nat.le_refl _
theorem polyM_le : ∀ (k : Nat) (r : List Int) (o : Bool) (acc : List PolyT), (polyM k r o acc).2.1.length ≤ r.length
  | 0, r, o, acc => Nat.le_refl _
  | k + 1, r, o, acc => by
    unfold polyM
    split
    · have h1 := polyM_le k (listM r.tail (o && !r.isEmpty)).2.1 (listM r.tail (o && !r.isEmpty)).2.2 (acc ++ [⟨r.headD 0, (listM r.tail (o && !r.isEmpty)).1⟩])
      have h2 := listM_le r.tail (o && !r.isEmpty)
      have h3 : r.tail.length ≤ r.length := by simp
      omega
    · exact Nat.le_refl _
theorem polysM_le (r : List Int) (o : Bool) : (polysM r o).2.1.length ≤ r.length := by
  cases r with
  | nil => exact Nat.le_refl _
  | cons n r =>
    unfold polysM
    simp only
    split
    · have := polyM_le n.toNat r o []
      simp only [List.length_cons]; omega
    · simp
theorem polyM_false : ∀ (k : Nat) (r : List Int) (acc : List PolyT), polyM k r false acc = (acc, r, false)
  | 0, _, _ => rfl
  | _ + 1, _, _ => by simp [polyM]
theorem polyM_spec : ∀ (k : Nat) (r : List Int) (acc : List PolyT), (∀ ps r1, polyO k r = some (ps, r1) → polyM k r true acc = (acc ++ ps, r1, true)) ∧ (polyO k r = none → (polyM k r true acc).2.2 = false)
  | 0, r, acc => ⟨fun ps r1 h => by obtain ⟨rfl, rfl⟩ := Prod.mk.inj (Option.some.inj h); simp [polyM], fun h => by cases h⟩
  | k + 1, [], acc => by
    refine ⟨fun ps r1 h => (by cases h), fun _ => ?_⟩
    simp [polyM, listM, takeO, polyM_false]
  | k + 1, c :: r, acc => by
    simp only [polyO, polyM, if_true, List.tail_cons, List.isEmpty_cons, Bool.not_false, Bool.and_true, List.headD_cons]
    cases h1 : takeO r with
    | none =>
      rw [listM_none h1]
      exact ⟨fun ps r1 h => (by cases h), fun _ => by rw [polyM_false]⟩
    | some p =>
      obtain ⟨cf, ra⟩ := p
      rw [listM_some h1]
      simp only
      obtain ⟨i1, i2⟩ := polyM_spec k ra (acc ++ [⟨c, cf⟩])
      cases h2 : polyO k ra with
      | none => exact ⟨fun ps r1 h => (by cases h), fun _ => i2 h2⟩
      | some q =>
        obtain ⟨qs, rb⟩ := q
        refine ⟨fun ps r1 h => ?_, fun h => (by cases h)⟩
        obtain ⟨rfl, rfl⟩ := Prod.mk.inj (Option.some.inj h)
        rw [i1 qs rb h2]
        simp
theorem polysM_spec (r : List Int) (hl : r.length ≤ 200) : (∀ ps r1, polysO r = some (ps, r1) → polysM r true = (ps, r1, true)) ∧ (polysO r = none → (polysM r true).2.2 = false) := by
  cases r with
  | nil => exact ⟨fun ps r1 h => (by cases h), fun _ => rfl⟩
  | cons n r =>
    simp only [List.length_cons] at hl
    simp only [polysO, polysM]
    by_cases h0 : 0 ≤ n
    · rw [if_pos h0]
      obtain ⟨i1, i2⟩ := polyM_spec n.toNat r []
      by_cases h2 : n ≤ 200
      · rw [if_pos ⟨h0, h2⟩]
        exact ⟨fun ps r1 h => by rw [i1 ps r1 h]; simp, i2⟩
      · rw [if_neg (fun h => h2 h.2), polyO_none (by omega)]
        exact ⟨fun ps r1 h => (by cases h), fun _ => rfl⟩
    · rw [if_neg h0, if_neg (fun h => h0 h.1)]
      exact ⟨fun ps r1 h => (by cases h), fun _ => rfl⟩
theorem polysM_false (r : List Int) : (polysM r false).2.2 = false := by
  cases r with
  | nil => rfl
  | cons n r =>
    unfold polysM
    simp only
    split
    · rw [polyM_false]
    · rfl
theorem listM_false (r : List Int) : (listM r false).2.2 = false := by
  unfold listM; split <;> rfl
def stepM (r : List Int) (o : Bool) : PairStepT × List Int × Bool :=
  (⟨(listM r o).1, (listM (listM r o).2.1 (listM r o).2.2).1, (polysM (listM (listM r o).2.1 (listM r o).2.2).2.1 (listM (listM r o).2.1 (listM r o).2.2).2.2).1, (listM (polysM (listM (listM r o).2.1 (listM r o).2.2).2.1 (listM (listM r o).2.1 (listM r o).2.2).2.2).2.1 (polysM (listM (listM r o).2.1 (listM r o).2.2).2.1 (listM (listM r o).2.1 (listM r o).2.2).2.2).2.2).1⟩,
   (listM (polysM (listM (listM r o).2.1 (listM r o).2.2).2.1 (listM (listM r o).2.1 (listM r o).2.2).2.2).2.1 (polysM (listM (listM r o).2.1 (listM r o).2.2).2.1 (listM (listM r o).2.1 (listM r o).2.2).2.2).2.2).2)
theorem stepM_le (r : List Int) (o : Bool) (h : r ≠ []) : (stepM r o).2.1.length < r.length := by
  unfold stepM
  dsimp only
  have h1 := listM_len r o
  have h2 := listM_le (listM r o).2.1 (listM r o).2.2
  have h3 := polysM_le (listM (listM r o).2.1 (listM r o).2.2).2.1 (listM (listM r o).2.1 (listM r o).2.2).2.2
  have h4 := listM_le (polysM (listM (listM r o).2.1 (listM r o).2.2).2.1 (listM (listM r o).2.1 (listM r o).2.2).2.2).2.1 (polysM (listM (listM r o).2.1 (listM r o).2.2).2.1 (listM (listM r o).2.1 (listM r o).2.2).2.2).2.2
  rcases h1 with h1 | ⟨h1, _⟩
  · omega
  · exact absurd h1 h
theorem stepM_spec (r : List Int) (hl : r.length ≤ 200) : (∀ s r1, stepO r = some (s, r1) → stepM r true = (s, r1, true)) ∧ (stepO r = none → (stepM r true).2.2 = false) := by
  unfold stepO
  cases h1 : takeO r with
  | none =>
    refine ⟨fun s r1 h => (by cases h), fun _ => ?_⟩
    unfold stepM; dsimp only
    rw [listM_none h1]
    dsimp only
    generalize hx : listM r.tail false = x
    have hx2 : x.2.2 = false := by rw [← hx]; exact listM_false _
    rw [hx2]
    generalize hy : polysM x.2.1 false = y
    have hy2 : y.2.2 = false := by rw [← hy]; exact polysM_false _
    rw [hy2]; exact listM_false _
  | some p =>
    obtain ⟨a, ra⟩ := p
    simp only
    cases h2 : takeO ra with
    | none =>
      refine ⟨fun s r1 h => (by cases h), fun _ => ?_⟩
      unfold stepM; dsimp only
      rw [listM_some h1]
      dsimp only
      rw [listM_none h2]
      dsimp only
      generalize hy : polysM ra.tail false = y
      have hy2 : y.2.2 = false := by rw [← hy]; exact polysM_false _
      rw [hy2]; exact listM_false _
    | some p =>
      obtain ⟨b, rb⟩ := p
      simp only
      obtain ⟨m1, a1, a2, a3, a4⟩ := takeO_suf h1
      obtain ⟨m2, b1, b2, b3, b4⟩ := takeO_suf h2
      have hlb : rb.length ≤ 200 := by rw [b3, List.length_drop, a3, List.length_drop]; omega
      obtain ⟨i1, i2⟩ := polysM_spec rb hlb
      cases h3 : polysO rb with
      | none =>
        refine ⟨fun s r1 h => (by cases h), fun _ => ?_⟩
        unfold stepM; dsimp only
        rw [listM_some h1]
        dsimp only
        rw [listM_some h2]
        dsimp only
        rw [i2 h3]; exact listM_false _
      | some p =>
        obtain ⟨c, rc⟩ := p
        simp only
        cases h4 : takeO rc with
        | none =>
          refine ⟨fun s r1 h => (by cases h), fun _ => ?_⟩
          unfold stepM; dsimp only
          rw [listM_some h1]
          dsimp only
          rw [listM_some h2]
          dsimp only
          rw [i1 c rc h3]
          dsimp only
          rw [listM_none h4]
        | some p =>
          obtain ⟨d, rd⟩ := p
          refine ⟨fun s r1 h => ?_, fun h => (by cases h)⟩
          obtain ⟨rfl, rfl⟩ := Prod.mk.inj (Option.some.inj h)
          unfold stepM
          rw [listM_some h1]
          dsimp only
          rw [listM_some h2]
          dsimp only
          rw [i1 c rc h3]
          dsimp only
          rw [listM_some h4]
end Go.Proofs.Ytenjmepbaajkjaa
