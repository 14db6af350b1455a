/-
  WholeIn: the plain law: as many different sources as lists of states, or every list is a source.
-/
import Derived.Test.YtlpaodfkmafjjaaA23d
namespace Go.Proofs.Ytlpaodfkmafjjaa
open Go Go.Lg
set_option linter.unusedVariables false
theorem sub_len {α : Type} [BEq α] [LawfulBEq α] : ∀ {A B : List α}, A.Nodup → (∀ x ∈ A, x ∈ B) → A.length ≤ B.length
  | [], _, _, _ => Nat.zero_le _
  | a :: A, B, hA, h => by
    obtain ⟨h1, h2⟩ := List.nodup_cons.1 hA
    have hm := h a List.mem_cons_self
    have := sub_len (A := A) (B := B.erase a) h2 fun x hx => by
      have hne : x ≠ a := fun e => h1 (e ▸ hx)
      exact (List.mem_erase_of_ne hne).2 (h x (List.mem_cons_of_mem _ hx))
    rw [List.length_erase_of_mem hm] at this
    have := List.length_pos_of_mem hm
    simp only [List.length_cons]
    omega
theorem sub_all {α : Type} [BEq α] [LawfulBEq α] {A B : List α} (hA : A.Nodup) (h : ∀ x ∈ A, x ∈ B) (hl : A.length = B.length) : ∀ x ∈ B, x ∈ A := fun x hx => by
  refine Classical.byContradiction fun hn => ?_
  have := sub_len (A := A) (B := B.erase x) hA fun y hy => by
    have hne : y ≠ x := fun e => hn (e ▸ hy)
    exact (List.mem_erase_of_ne hne).2 (h y hy)
  rw [List.length_erase_of_mem hx] at this
  have := List.length_pos_of_mem hx
  omega
def upToW (n : Nat) : List Int := (List.range n).map fun (i : Nat) => (i : Int)
theorem nodup_upToW (n : Nat) : (upToW n).Nodup := by
  unfold upToW List.Nodup
  rw [List.pairwise_map]
  exact List.pairwise_lt_range.imp fun h => by omega
theorem mem_upToW (n : Nat) (x : Int) : x ∈ upToW n ↔ 0 ≤ x ∧ x < n := by
  unfold upToW
  rw [List.mem_map]
  constructor
  · rintro ⟨i, hi, rfl⟩
    have := List.mem_range.1 hi
    omega
  · intro h
    exact ⟨x.toNat, List.mem_range.2 (by omega), by omega⟩
/-- All lists of n states. -/
def allL (s : Nat) : Nat → List (List Int)
  | 0 => [[]]
  | n + 1 => (upToW s).flatMap fun x => (allL s n).map fun l => x :: l
theorem mem_allL (s : Nat) : ∀ (n : Nat) (l : List Int), l ∈ allL s n ↔ l.length = n ∧ ∀ x ∈ l, 0 ≤ x ∧ x < s
  | 0, l => by
    simp only [allL, List.mem_singleton]
    constructor
    · rintro rfl; simp
    · intro h; exact List.length_eq_zero_iff.1 h.1
  | n + 1, l => by
    simp only [allL, List.mem_flatMap, List.mem_map]
    constructor
    · rintro ⟨x, hx, l', hl, rfl⟩
      obtain ⟨h1, h2⟩ := (mem_allL s n l').1 hl
      refine ⟨by simp [h1], fun y hy => ?_⟩
      rcases List.mem_cons.1 hy with rfl | hy
      · exact (mem_upToW s y).1 hx
      · exact h2 y hy
    · rintro ⟨h1, h2⟩
      cases l with
      | nil => simp at h1
      | cons x l =>
        exact ⟨x, (mem_upToW s x).2 (h2 x List.mem_cons_self), l, (mem_allL s n l).2 ⟨by simpa using h1, fun y hy => h2 y (List.mem_cons_of_mem _ hy)⟩, rfl⟩
theorem nodup_allL (s : Nat) : ∀ n, (allL s n).Nodup
  | 0 => by simp [allL]
  | n + 1 => by
    unfold allL List.Nodup
    rw [List.pairwise_flatMap]
    refine ⟨fun x _ => ?_, ?_⟩
    · rw [List.pairwise_map]
      exact (nodup_allL s n).imp fun h e => h (List.cons.inj e).2
    · refine (nodup_upToW s).imp fun {a b} hab x hx y hy e => ?_
      obtain ⟨_, _, rfl⟩ := List.mem_map.1 hx
      obtain ⟨_, _, rfl⟩ := List.mem_map.1 hy
      exact hab (List.cons.inj e).1
theorem sum_rep (k : Nat) : ∀ s : Nat, (List.replicate s k).sum = s * k
  | 0 => by simp
  | s + 1 => by rw [List.replicate_succ, List.sum_cons, sum_rep k s, Nat.succ_mul, Nat.add_comm]
theorem len_allL (s : Nat) : ∀ n, (allL s n).length = s ^ n
  | 0 => rfl
  | n + 1 => by
    unfold allL
    rw [List.length_flatMap]
    simp only [List.length_map, len_allL s n]
    rw [show ((upToW s).map fun _ => s ^ n) = List.replicate s (s ^ n) by
      rw [List.map_const']; simp [upToW]]
    rw [sum_rep, Nat.pow_succ, Nat.mul_comm]
theorem NewAt.ne {a : AutoT} {i j : Nat} (hj : NewAt a j) (hij : i < j) (hl : j < a.rules.length) : ¬ SameFromP (a.rules.getD i default) (a.rules.getD j default) := fun h =>
  hj ⟨a.rules.getD i default, by
    rw [show a.rules.getD i default = a.rules[i] by simp [List.getD, show i < a.rules.length by omega]]
    exact List.mem_take_iff_getElem.2 ⟨i, by omega, rfl⟩, h⟩
open Classical in
noncomputable def srcs (a : AutoT) : List (Int × List Int) := ((List.range a.rules.length).filter fun k => decide (NewAt a k)).map fun k => ((a.rules.getD k default).sym, (a.rules.getD k default).args)
theorem len_srcs (a : AutoT) : (srcs a).length = distN a a.rules.length := by unfold srcs distN; rw [List.length_map]
theorem nodup_srcs (a : AutoT) : (srcs a).Nodup := by
  unfold srcs List.Nodup
  rw [List.pairwise_map]
  refine List.Pairwise.imp_of_mem ?_ (List.Pairwise.filter _ List.pairwise_lt_range)
  intro i j hi hj hij e
  have hj2 := List.mem_filter.1 hj
  obtain ⟨e1, e2⟩ := Prod.mk.inj e
  exact NewAt.ne (by simpa using hj2.2) hij (List.mem_range.1 hj2.1) ⟨e1, e2⟩
def allS (rs : List Int) (s : Nat) : List (Int × List Int) := (List.range rs.length).flatMap fun f => (allL s (rs.getD f default).toNat).map fun l => ((f : Int), l)
theorem len_allS (rs : List Int) (s : Nat) : ∀ i ≤ rs.length, ((((List.range i).flatMap fun f => (allL s (rs.getD f default).toNat).map fun l => ((f : Int), l)).length : Nat) : Int) = totN rs (s : Int) i
  | 0, _ => by simp [totN]
  | i + 1, h => by
    have ih := len_allS rs s i (by omega)
    rw [List.range_succ, List.flatMap_append, List.length_append, totN_succ rs s i (by omega), Int.natCast_add, ih]
    simp only [List.flatMap_cons, List.flatMap_nil, List.append_nil, List.length_map, len_allL]
    rw [Int.natCast_pow]
theorem nodup_allS (rs : List Int) (s : Nat) : (allS rs s).Nodup := by
  unfold allS List.Nodup
  rw [List.pairwise_flatMap]
  refine ⟨fun f _ => ?_, List.pairwise_lt_range.imp fun {a b} hab x hx y hy e => ?_⟩
  · rw [List.pairwise_map]
    exact (nodup_allL s _).imp fun h e => h (Prod.mk.inj e).2
  · obtain ⟨_, _, rfl⟩ := List.mem_map.1 hx
    obtain ⟨_, _, rfl⟩ := List.mem_map.1 hy
    have := (Prod.mk.inj e).1
    omega
/-- An index at which a rule's source stands first. -/
theorem first_src (a : AutoT) : ∀ (k : Nat), k < a.rules.length → ((a.rules.getD k default).sym, (a.rules.getD k default).args) ∈ srcs a := fun k => by
  induction k using Nat.strongRecOn with
  | ind k ih =>
    intro hk
    rcases Classical.em (NewAt a k) with h | h
    · unfold srcs
      exact List.mem_map.2 ⟨k, List.mem_filter.2 ⟨List.mem_range.2 hk, by simpa using h⟩, rfl⟩
    · obtain ⟨x, hx, h1, h2⟩ := Classical.not_not.1 h
      obtain ⟨j, hj, rfl⟩ := List.mem_take_iff_getElem.1 hx
      have hjk : j < k := by omega
      have := ih j hjk (by omega)
      rw [show a.rules.getD j default = a.rules[j] by simp [List.getD, show j < a.rules.length by omega]] at this
      rw [h1, h2] at this
      exact this
def WholeP (rs : List Int) (a : AutoT) : Prop := ∀ f < rs.length, ∀ l ∈ allL a.states.toNat (rs.getD f default).toNat, ∃ k < a.rules.length, (a.rules.getD k default).sym = (f : Int) ∧ (a.rules.getD k default).args = l
theorem whole_iff {rs : List Int} {a : AutoT} (h : AutoOkP rs a) : totN rs a.states rs.length = distN a a.rules.length ↔ WholeP rs a := by
  have hlen : ((allS rs a.states.toNat).length : Int) = totN rs a.states rs.length := by
    have := len_allS rs a.states.toNat rs.length (Nat.le_refl _)
    rw [show ((a.states.toNat : Nat) : Int) = a.states by have := h.1.2.1; omega] at this
    exact this
  have hsub : ∀ x ∈ srcs a, x ∈ allS rs a.states.toNat := fun x hx => by
    unfold srcs at hx
    obtain ⟨k, hk, rfl⟩ := List.mem_map.1 hx
    have hk := List.mem_range.1 (List.mem_filter.1 hk).1
    obtain ⟨⟨h1, h2⟩, h3, _, h4⟩ := (h.2 k hk).1
    have hst := h.1.2.1
    refine List.mem_flatMap.2 ⟨(a.rules.getD k default).sym.toNat, List.mem_range.2 (by omega), List.mem_map.2 ⟨(a.rules.getD k default).args, (mem_allL _ _ _).2 ⟨by omega, fun x hx => ?_⟩, ?_⟩⟩
    · obtain ⟨j, hj, rfl⟩ := List.getElem_of_mem hx
      have := h4 j hj
      generalize (a.rules.getD k default).args = A at this hj ⊢
      rw [show A.getD j default = A[j] by simp [List.getD, hj]] at this
      omega
    · rw [show (((a.rules.getD k default).sym.toNat : Nat) : Int) = (a.rules.getD k default).sym by omega]
  rw [← len_srcs, ← hlen]
  constructor
  · intro e f hf l hl
    have := sub_all (nodup_srcs a) hsub (by omega) ((f : Int), l) (List.mem_flatMap.2 ⟨f, List.mem_range.2 hf, List.mem_map.2 ⟨l, hl, rfl⟩⟩)
    unfold srcs at this
    obtain ⟨k, hk, e⟩ := List.mem_map.1 this
    obtain ⟨e1, e2⟩ := Prod.mk.inj e
    exact ⟨k, List.mem_range.1 (List.mem_filter.1 hk).1, e1, e2⟩
  · intro hw
    have h1 := sub_len (nodup_srcs a) hsub
    have h2 := sub_len (A := allS rs a.states.toNat) (B := srcs a) (nodup_allS _ _) fun x hx => by
      obtain ⟨f, hf, hx⟩ := List.mem_flatMap.1 hx
      obtain ⟨l, hl, rfl⟩ := List.mem_map.1 hx
      obtain ⟨k, hk, e1, e2⟩ := hw f (List.mem_range.1 hf) l hl
      have := first_src a k hk
      rw [e1, e2] at this
      exact this
    omega
end Go.Proofs.Ytlpaodfkmafjjaa
