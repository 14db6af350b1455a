/-
  Dependency pairs and their weighing: the plain law.
-/
import Derived.Test.YtpfeecgbiikpaaaGreatA15p
import Derived.Test.YtpfeecgbiikpaaaGreatA06f
namespace Go.Proofs.YtpfeecgbiikpaaaGreat
open Go Go.Lg
set_option linter.unusedSimpArgs false
set_option linter.unusedVariables false
def HasSub (rs t : List Int) (k : Nat) (u : List Int) : Prop := ∃ a, (k ≤ a ∧ a < t.length) ∧ subS rs t a = u
def DefP (x : SystemT) (n : Int) : Prop := ∃ r ∈ x.rules, r.l.getD 0 default = n
def PairP (x : SystemT) (r a : Nat) : Prop := (0 ≤ (x.rules.getD r default).r.getD a default ∧ DefP x ((x.rules.getD r default).r.getD a default)) ∧ ¬ HasSub x.sig (x.rules.getD r default).l 1 (subS x.sig (x.rules.getD r default).r a)
def mkP (x : SystemT) (r a : Nat) : DepPairT := ⟨(x.rules.getD r default).l, subS x.sig (x.rules.getD r default).r a, r, a⟩
open Classical in
noncomputable def prR (x : SystemT) (r : Nat) : Nat → List DepPairT
  | 0 => []
  | a + 1 => if PairP x r a then prR x r a ++ [mkP x r a] else prR x r a
noncomputable def prA (x : SystemT) : Nat → List DepPairT
  | 0 => []
  | r + 1 => prA x r ++ prR x r (x.rules.getD r default).r.length
theorem prR_yes {x : SystemT} {r a : Nat} (h : PairP x r a) : prR x r (a + 1) = prR x r a ++ [mkP x r a] := if_pos h
theorem prR_no {x : SystemT} {r a : Nat} (h : ¬ PairP x r a) : prR x r (a + 1) = prR x r a := if_neg h
theorem prR_len (x : SystemT) (r : Nat) : ∀ a, (prR x r a).length ≤ a
  | 0 => Nat.le_refl _
  | a + 1 => by
    have ih := prR_len x r a
    rcases Classical.em (PairP x r a) with h | h
    · rw [prR_yes h, List.length_append]; simp; omega
    · rw [prR_no h]; omega
theorem prA_len {x : SystemT} (hx : SystemOkP x) : ∀ r ≤ x.rules.length, (prA x r).length ≤ 60 * r
  | 0, _ => Nat.le_refl _
  | r + 1, h => by
    have ih := prA_len hx r (by omega)
    have h1 := prR_len x r (x.rules.getD r default).r.length
    have h2 := (hx.2 r (by omega)).1.2.1.2.1
    simp only [prA, List.length_append]
    omega
/-- a valid pair -/
def PrOk (rs : List Int) (p : DepPairT) : Prop := (TermOkP rs p.l ∧ TermOkP rs p.r) ∧ 0 ≤ p.l.getD 0 default ∧ 0 ≤ p.r.getD 0 default
theorem prR_ok {x : SystemT} (hx : SystemOkP x) {r : Nat} (hr : r < x.rules.length) : ∀ a ≤ (x.rules.getD r default).r.length, ∀ p ∈ prR x r a, PrOk x.sig p
  | 0, _, p, hp => by cases hp
  | a + 1, ha, p, hp => by
    have ih := prR_ok hx hr a (by omega)
    have hR := hx.2 r hr
    rcases Classical.em (PairP x r a) with h | h
    · rw [prR_yes h] at hp
      rcases List.mem_append.1 hp with hp | hp
      · exact ih p hp
      · rw [List.mem_singleton.1 hp]
        refine ⟨⟨hR.1.1, subS_ok hR.1.2.1 (by omega)⟩, hR.1.2.2, ?_⟩
        show 0 ≤ (subS x.sig (x.rules.getD r default).r a).getD 0 default
        rw [(sub_sub hR.1.2.1 (show a < (x.rules.getD r default).r.length by omega)).1]
        exact h.1.1
    · rw [prR_no h] at hp; exact ih p hp
theorem prA_ok {x : SystemT} (hx : SystemOkP x) : ∀ r ≤ x.rules.length, ∀ p ∈ prA x r, PrOk x.sig p
  | 0, _, p, hp => by cases hp
  | r + 1, h, p, hp => by
    rcases List.mem_append.1 hp with hp | hp
    · exact prA_ok hx r (by omega) p hp
    · exact prR_ok hx (by omega) _ (Nat.le_refl _) p hp
def PairsP (x : SystemT) : Prop := SystemOkP x ∧ (prA x x.rules.length).length ≤ 64
noncomputable def allP (x : SystemT) : List DepPairT := prA x x.rules.length
open Classical in
noncomputable def pairsR (x : SystemT) : List DepPairT × Bool := if PairsP x then (allP x, true) else ([], false)
theorem pairsR_yes {x : SystemT} (h : PairsP x) : pairsR x = (allP x, true) := if_pos h
theorem pairsR_no {x : SystemT} (h : ¬ PairsP x) : pairsR x = ([], false) := if_neg h
theorem allP_ok {x : SystemT} (h : PairsP x) : ∀ p ∈ allP x, PrOk x.sig p := prA_ok h.1 _ (Nat.le_refl _)
/-- a set of numbers below n -/
def SetP (set : List Int) (n : Int) : Prop := ∀ i < set.length, (0 ≤ set.getD i default ∧ set.getD i default < n) ∧ (0 < i → set.getD (i - 1) default < set.getD i default)
theorem set_len {set : List Int} {n : Int} (h : SetP set n) : ∀ i < set.length, (i : Int) ≤ set.getD i default
  | 0, hi => by have := (h 0 hi).1.1; omega
  | i + 1, hi => by
    have ih := set_len h i (by omega)
    have := (h (i + 1) hi).2 (by omega)
    simp only [Nat.add_sub_cancel] at this
    omega
theorem set_le {set : List Int} {n : Int} (h : SetP set n) : (set.length : Int) ≤ n ∨ set.length = 0 := by
  rcases Nat.eq_zero_or_pos set.length with h0 | h0
  · exact .inr h0
  · have h1 := set_len h (set.length - 1) (by omega)
    have h2 := (h (set.length - 1) (by omega)).1.2
    left; omega
/-- twice as many interpretations: plain ones, then marked ones -/
def MarkedP (rs : List Int) (ps : List PolyT) : Prop := ps.length = 2 * rs.length ∧ PolysOkP rs (ps.take rs.length) ∧ PolysOkP rs (ps.drop rs.length)
end Go.Proofs.YtpfeecgbiikpaaaGreat
