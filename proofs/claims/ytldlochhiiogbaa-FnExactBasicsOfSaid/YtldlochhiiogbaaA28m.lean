/-
  Labels by age, and by place once the order is known.
-/
import Derived.Test.YtldlochhiiogbaaLTy
import Derived.Test.YtldlochhiiogbaaLgK8
namespace Go.Proofs.Ytldlochhiiogbaa
open Go Go.Lg
set_option linter.unusedSimpArgs false
set_option linter.unusedVariables false
set_option maxHeartbeats 4000000
attribute [local irreducible] SW runL runQ runG runQG FC Ret1 toF redoL
/-- the first forms, each under a label of its own -/
def lbs (N : Nat) (F : List Int → List Int) (ps : List (List Int)) (i : Nat) : List (Tk × List Int) := (List.range i).map fun j => (.lab [N, j], F (ps.getD j default))
theorem lbs_succ (N : Nat) (F : List Int → List Int) (ps : List (List Int)) (i : Nat) : lbs N F ps (i + 1) = lbs N F ps i ++ [(.lab [N, i], F (ps.getD i default))] := by simp [lbs, List.range_succ]
def labOf : Tk → List Nat
  | .lab l => l
  | _ => []
def posOf (l : List Nat) : List (List Nat) → Nat
  | [] => 0
  | x :: r => if x = l then 0 else posOf l r + 1
theorem posOf_at : ∀ (ls : List (List Nat)), ls.Nodup → ∀ (j : Nat) (h : j < ls.length), posOf ls[j] ls = j
  | x :: r, hn, 0, _ => by simp [posOf]
  | x :: r, hn, j + 1, h => by
    have h1 := List.nodup_cons.1 hn
    have hj : j < r.length := by simpa using h
    have hne : x ≠ r[j] := fun e => h1.1 (e ▸ List.getElem_mem hj)
    simp only [List.getElem_cons_succ, posOf, if_neg hne]
    rw [posOf_at r h1.2 j hj]
/-- the labels that the sorted list is given -/
def relF (N : Nat) (p : List Nat) (ls : List (List Nat)) (l : List Nat) : List Nat := if l.head? = some N then p ++ [posOf l ls] ++ [0] else l
theorem relF_ne {N : Nat} {p : List Nat} {ls : List (List Nat)} : ∀ l, l ≠ [] → relF N p ls l ≠ [] := fun l h => by
  unfold relF
  split
  · simp
  · exact h
theorem relF_off {N : Nat} {p : List Nat} {ls : List (List Nat)} : ∀ l, (∀ r, l ≠ N :: r) → relF N p ls l = l := fun l h => by
  unfold relF
  rw [if_neg]
  intro e
  cases l with
  | nil => cases e
  | cons a r => exact h r (by rw [List.head?_cons, Option.some.injEq] at e; rw [e])
theorem rlL_ints (f : List Nat → List Nat) (xs : List Int) : D.rlL f (xs.map (.int .i64)) = xs.map (.int .i64) := by
  rw [rlL_map, List.map_map]; rfl
theorem relab_srt {N : Nat} {p : List Nat} {F : List Int → List Int} {ps : List (List Int)} {n : Nat} {qs : List (Tk × List Int)} (h : qs.Perm (lbs N F ps n)) :
    D.rlL (relF N p (qs.map fun q => labOf q.1)) (qs.map intsT) = mapR (fun i y => Int64SL (p ++ [i] ++ [0]) y) (qs.map (·.2)) := by
  have hnd : (qs.map fun q => labOf q.1).Nodup := by
    refine (h.map _).nodup_iff.2 ?_
    simp only [lbs, List.map_map]
    have : ((fun q : Tk × List Int => labOf q.1) ∘ fun j => (Tk.lab [N, j], F (ps.getD j default))) = fun j => [N, j] := rfl
    rw [this]
    exact List.Pairwise.map _ (fun a b hab e => hab (by simpa using e)) (List.nodup_range (n := n))
  have hlab : ∀ q ∈ qs, ∃ l, q.1 = .lab l ∧ l.head? = some N := fun q hq => by
    have := h.mem_iff.1 hq
    simp only [lbs, List.mem_map] at this
    obtain ⟨j, _, rfl⟩ := this
    exact ⟨_, rfl, rfl⟩
  rw [rlL_map, List.map_map]
  refine List.ext_getElem (by rw [List.length_map, mapR_length, List.length_map]) fun j h1 h2 => ?_
  have hj : j < qs.length := by simpa using h1
  obtain ⟨l, hl, hN⟩ := hlab _ (List.getElem_mem hj)
  have hpos := posOf_at _ hnd j (by simpa using hj)
  simp only [List.getElem_map] at hpos
  have e1 : labOf qs[j].1 = l := by rw [hl]; rfl
  rw [e1] at hpos
  have e2 : intsT qs[j] = .sl (.lab l) (qs[j].2.map (.int .i64)) := by
    unfold intsT; rw [hl]
  have e3 : relF N p (qs.map fun q => labOf q.1) l = p ++ [j] ++ [0] := by
    unfold relF; rw [if_pos hN, hpos]
  rw [List.getElem_map]
  show D.rl _ (intsT qs[j]) = _
  rw [e2]
  show D.sl (.lab (relF N p (qs.map fun q => labOf q.1) l)) (D.rlL _ _) = _
  rw [rlL_ints, e3]
  simp [mapR, Int64SL, List.getElem?_eq_getElem hj]
end Go.Proofs.Ytldlochhiiogbaa
