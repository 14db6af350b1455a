/-
  Lg, part 22: what the proofs of functions use beside the rules.
-/
import Derived.Test.YtenjmepbaajkjaaLgGo
namespace Go.Lg
open Go Go.RowKit

/-- A mark: what is left to 'omega'. -/
structure Om (p : Prop) : Prop where
  out : p
theorem wrap64 {n : Int} (h1 : -9223372036854775808 ≤ n) (h2 : n ≤ 9223372036854775807) : IntKind.i64.wrap n = n := by
  simp [IntKind.wrap, IntKind.signed, IntKind.bits]
  omega

/-- A proposition as a test. -/
noncomputable def tst (p : Prop) : Bool := @decide p (Classical.propDecidable p)
theorem tst_true {p : Prop} (h : p) : tst p = true := by simp [tst, h]
theorem tst_false {p : Prop} (h : ¬ p) : tst p = false := by simp [tst, h]
theorem tst_iff {p : Prop} : tst p = true ↔ p := by simp [tst]
theorem tst_not {p : Prop} : tst p = false ↔ ¬ p := by simp [tst]
theorem tst_congr {p q : Prop} (h : p ↔ q) : tst p = tst q := by rw [propext h]
theorem decide_tst (p : Prop) [Decidable p] : decide p = tst p := by
  by_cases h : p
  · rw [tst_true h, decide_eq_true h]
  · rw [tst_false h, decide_eq_false h]

theorem true_eq_tst (p : Prop) : (true = tst p) = p := propext ⟨fun h => tst_iff.1 h.symm, fun h => (tst_true h).symm⟩
theorem false_eq_tst (p : Prop) : (false = tst p) = ¬ p := propext ⟨fun h => tst_not.1 h.symm, fun h => (tst_false h).symm⟩
theorem leq {d d' : D} (h : d = d') : D.le d d' := h ▸ D.le.refl d
theorem le_self (d : D) : D.le d d = True := by simp [D.le.refl]
theorem le_int (k : IntKind) (a b : Int) : D.le (.int k a) (.int k b) = (a = b) := by
  refine propext ⟨fun h => ?_, fun h => h ▸ .refl _⟩
  cases h; rfl
theorem le_bool (a b : Bool) : D.le (.bool a) (.bool b) = (a = b) := by
  refine propext ⟨fun h => ?_, fun h => h ▸ .refl _⟩
  cases h; rfl
theorem le_any (tk : Tk) (xs : List D) : D.le (.sl tk xs) (.sl .any xs) = True := by simp [D.le.any]

def envLe (env : List (Nat × D)) : List (Nat × D) → Prop
  | [] => True
  | (t, d) :: r => (someK (look env t) fun d' => D.le d' d) ∧ envLe env r
def boxLe (bx : List (Nat × List D)) : List (Nat × List D) → Prop
  | [] => True
  | (t, cs) :: r => (someK (look bx t) fun cs' => cs' = cs) ∧ boxLe bx r
theorem envLe_nil (env : List (Nat × D)) : envLe env [] = True := rfl
theorem envLe_cons (env : List (Nat × D)) (t : Nat) (d : D) (r : List (Nat × D)) : envLe env ((t, d) :: r) = ((someK (look env t) fun d' => D.le d' d) ∧ envLe env r) := rfl
theorem boxLe_nil (bx : List (Nat × List D)) : boxLe bx [] = True := rfl
theorem boxLe_cons (bx : List (Nat × List D)) (t : Nat) (cs : List D) (r : List (Nat × List D)) : boxLe bx ((t, cs) :: r) = ((someK (look bx t) fun cs' => cs' = cs) ∧ boxLe bx r) := rfl
theorem envLe_all {env : List (Nat × D)} : ∀ {r : List (Nat × D)}, envLe env r → ∀ p ∈ r, ∃ d, look env p.1 = some d ∧ D.le d p.2
  | [], _, p, hp => by cases hp
  | (t, d) :: r, h, p, hp => by
    rcases List.mem_cons.1 hp with e | e
    · subst e
      exact someK_get h.1
    · exact envLe_all h.2 p e
theorem boxLe_all {bx : List (Nat × List D)} : ∀ {r : List (Nat × List D)}, boxLe bx r → ∀ p ∈ r, look bx p.1 = some p.2
  | [], _, p, hp => by cases hp
  | (t, cs) :: r, h, p, hp => by
    rcases List.mem_cons.1 hp with e | e
    · subst e
      obtain ⟨d, h1, h2⟩ := someK_get h.1
      rw [h1, h2]
    · exact boxLe_all h.2 p e
theorem covers_mk {L L' : LS} (h1 : L'.n = L.n) (h2 : L'.fix = L.fix) (h3 : envLe L.env L'.env) (h4 : boxLe L.boxes L'.boxes) (h5 : boxLe L.ro L'.ro) (h6 : ∀ k ∈ L'.toks, k ∈ L.toks) : L.covers L' :=
  ⟨h1, h2, envLe_all h3, boxLe_all h4, boxLe_all h5, h6⟩

theorem wrap64m {n : Int} (h : Om (-9223372036854775808 ≤ n ∧ n ≤ 9223372036854775807)) : IntKind.i64.wrap n = n := wrap64 h.out.1 h.out.2
theorem wrapU64 {n : Int} (h1 : 0 ≤ n) (h2 : n ≤ 18446744073709551615) : IntKind.u64.wrap n = n := by
  simp only [IntKind.wrap, IntKind.signed, IntKind.bits, Bool.false_and, Bool.false_eq_true, if_false]
  omega
theorem wrapU64m {n : Int} (h : Om (0 ≤ n ∧ n ≤ 18446744073709551615)) : IntKind.u64.wrap n = n := wrapU64 h.out.1 h.out.2
theorem map_getDm {α : Type} [Inhabited α] (f : α → D) (xs : List α) (n : Nat) (h : Om (n < xs.length)) : (xs.map f).getD n default = f (xs.getD n default) := by
  simp [List.getD, List.getElem?_map, List.getElem?_eq_getElem h.out]
theorem map_getD {α : Type} [Inhabited α] (f : α → D) (xs : List α) (n : Nat) (h : n < xs.length) : (xs.map f).getD n default = f (xs.getD n default) := by
  simp [List.getD, List.getElem?_map, List.getElem?_eq_getElem h]
theorem toNat_sub1 (i : Nat) : ((i : Int) - 1).toNat = i - 1 := by omega
theorem toNat_add1 (i : Nat) : ((i : Int) + 1).toNat = i + 1 := by omega
theorem upto_succ {P : Nat → Prop} {i : Nat} (h : ∀ j < i, P j) (hi : P i) : ∀ j < i + 1, P j := fun j hj => by
  rcases Nat.lt_succ_iff_lt_or_eq.1 hj with e | e
  · exact h j e
  · subst e; exact hi
theorem ext_getD {α : Type} [Inhabited α] {xs ys : List α} (h : xs.length = ys.length) (he : ∀ j < xs.length, xs.getD j default = ys.getD j default) : xs = ys := by
  refine List.ext_getElem h fun j h1 h2 => ?_
  have := he j h1
  simpa [List.getD, List.getElem?_eq_getElem h1, List.getElem?_eq_getElem h2] using this
theorem int_toNat (n : Nat) : (n : Int).toNat = n := Int.toNat_natCast n

/-- What stands by itself: how long a slice can be. -/
def D.bnd : D → Prop
  | .sl _ xs => xs.length ≤ 9223372036854775807
  | .ms _ n => n ≤ 9223372036854775807
  | _ => True
theorem bnd_of_rel {G : Ghost} {w : World} {d : D} {v : Value} (h : Rel G w d v) : d.bnd := by
  cases h with
  | sl hn hc hm => subst hn; exact Nat.le_trans hc hm
  | ms hb hc hn => exact Nat.le_trans hc hn
  | _ => trivial

variable {S : Setup} {B : Base} {R : LS → Prop} {k : List VItem} {L : LS}
theorem sw_bnd (t : Nat) {d : D} (h : look L.env t = some d) (hk : d.bnd → SW S B R k L) : SW S B R k L := fun G a w hs => by
  obtain ⟨v, _, hv⟩ := hs.env t d h
  exact hk (bnd_of_rel hv) G a w hs
/-- .. and of the parts of a struct. -/
theorem sw_bnd_agg (t j : Nat) {cs : List D} {d : D} (h : look L.env t = some (.agg cs)) (hj : cs[j]? = some d) (hk : d.bnd → SW S B R k L) : SW S B R k L := fun G a w hs => by
  obtain ⟨v, _, hv⟩ := hs.env t _ h
  cases hv with
  | agg hl hr =>
    obtain ⟨u, hu⟩ : ∃ u, ‹List Value›[j]? = some u := ⟨_, List.getElem?_eq_getElem (by rw [hl]; exact (List.getElem?_eq_some_iff.1 hj).1)⟩
    exact hk (bnd_of_rel (hr j d u hj hu)) G a w hs
theorem sw_bnd_box (id j : Nat) {cs : List D} {d : D} (h : look L.boxes id = some cs) (hj : cs[j]? = some d) (hk : d.bnd → SW S B R k L) : SW S B R k L := fun G a w hs => by
  obtain ⟨g, _, ⟨vs, e, h1, h2, h3⟩, _⟩ := hs.W.boxes id cs h
  obtain ⟨u, hu⟩ : ∃ u, vs[j]? = some u := ⟨_, Array.getElem?_eq_getElem (Nat.lt_of_lt_of_le (List.getElem?_eq_some_iff.1 hj).1 h2)⟩
  exact hk (bnd_of_rel (h3 j d u hj hu)) G a w hs
end Go.Lg
