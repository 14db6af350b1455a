/-
  A03t, A02c, A03, A05p, A15p, A06, A06s, A15s, A15t, ACl, A06e, A06f, A17p, one behind the other.
-/
import Derived.Test.YtlcdahaihlflaaaG1
import Derived.Test.YtlcdahaihlflaaaLgK6
import Derived.Test.YtlcdahaihlflaaaLgK4
import Derived.Test.YtlcdahaihlflaaaLgK7
import Derived.Test.YtlcdahaihlflaaaSet
import Derived.Test.YtlcdahaihlflaaaLTy
import Derived.Test.YtlcdahaihlflaaaLgK13
import Derived.Test.YtlcdahaihlflaaaLgK10
import Derived.Test.YtlcdahaihlflaaaLgK12
import Derived.Test.YtlcdahaihlflaaaG4
section
namespace Go.Proofs.Ytlcdahaihlflaaa
open Go Go.Lg
set_option linter.unusedSimpArgs false
inductive Fl (rs : List Int) : Nat → List Int → Prop
 | nil : Fl rs 0 []
 | cons {n : Int} {k : Nat} {l : List Int} (h : 0 ≤ arS rs n) (r : Fl rs (k + (arS rs n).toNat) l) : Fl rs (k + 1) (n :: l)
theorem Fl.zero {rs l : List Int} (h : Fl rs 0 l) : l = [] := by
 generalize e : (0 : Nat) = k at h
 cases h with
 | nil => rfl
 | cons _ _ => omega
theorem Fl.len {rs l : List Int} {k : Nat} (h : Fl rs k l) : k ≤ l.length := by
 induction h with
 | nil => exact Nat.le_refl _
 | cons _ _ ih => simp only [List.length_cons]; omega
theorem Fl.app {rs l : List Int} {j : Nat} (h : Fl rs j l) : ∀ {k : Nat} {m : List Int}, Fl rs k m → Fl rs (j + k) (l ++ m) := by
 induction h with
 | nil => intro k m hm; rw [Nat.zero_add]; exact hm
 | @cons n i l h r ih =>
  intro k m hm
  have := ih hm
  rw [show i + 1 + k = (i + k) + 1 by omega]
  exact .cons h (by rw [show i + k + (arS rs n).toNat = i + (arS rs n).toNat + k by omega]; exact this)
theorem Fl.split {rs : List Int} : ∀ (l : List Int) (j k : Nat), Fl rs (j + k) l → ∃ l1 l2, l = l1 ++ l2 ∧ Fl rs j l1 ∧ Fl rs k l2
 | [], j, k, h => by
  have := h.len
  simp only [List.length_nil] at this
  obtain rfl : j = 0 := by omega
  obtain rfl : k = 0 := by omega
  exact ⟨[], [], rfl, .nil, .nil⟩
 | n :: l, 0, k, h => ⟨[], n :: l, rfl, .nil, by rw [Nat.zero_add] at h; exact h⟩
 | n :: l, j + 1, k, h => by
  rw [show j + 1 + k = (j + k) + 1 by omega] at h
  cases h with
  | cons h r =>
   rw [show j + k + (arS rs n).toNat = (j + (arS rs n).toNat) + k by omega] at r
   obtain ⟨l1, l2, e, h1, h2⟩ := Fl.split l _ _ r
   exact ⟨n :: l1, l2, by rw [e]; rfl, .cons h h1, h2⟩
theorem Fl.scan {rs : List Int} {k : Nat} {l : List Int} (h : Fl rs k l) : ∀ (r : List Int) (i : Nat), 1 ≤ k → Go.Proofs.Ytlcdahaihlflaaa.scan rs (l ++ r) k i = i + l.length := by
 induction h with
 | nil => intro r i h0; omega
 | @cons n k l h hr ih =>
  intro r i _
  simp only [List.cons_append, Go.Proofs.Ytlcdahaihlflaaa.scan]
  rw [if_neg (by omega)]
  by_cases e : k + (arS rs n).toNat = 0
  ·rw [if_pos (by omega)]
   rw [e] at hr
   rw [hr.zero]
   simp
  ·rw [if_neg (by omega)]
   have := ih r (i + 1) (by omega)
   rw [show ((k + 1 : Nat) : Int) + arS rs n - 1 = ((k + (arS rs n).toNat : Nat) : Int) by omega, this]
   simp only [List.length_cons]; omega
theorem scan_fl {rs : List Int} : ∀ (l : List Int) (k i : Nat) (e : Int), 1 ≤ k → scan rs l k i = e → 0 ≤ e → ∃ l1 l2, l = l1 ++ l2 ∧ Fl rs k l1 ∧ e = i + l1.length
 | [], k, i, e, _, h, he => by simp only [scan] at h; omega
 | n :: l, k, i, e, hk, h, he => by
  simp only [scan] at h
  split at h
  ·omega
  ·rename_i h0
   obtain ⟨k, rfl⟩ : ∃ q, k = q + 1 := ⟨k - 1, by omega⟩
   split at h
   ·rename_i h1
    obtain ⟨rfl, h3⟩ : k = 0 ∧ arS rs n = 0 := by omega
    exact ⟨[n], l, rfl, .cons (by omega) (by rw [h3]; exact .nil), by simp; omega⟩
   ·rename_i h1
    obtain ⟨l1, l2, e1, e2, e3⟩ := scan_fl l (k + (arS rs n).toNat) (i + 1) e (by omega) (by rw [← h]; congr 1; omega) he
    exact ⟨n :: l1, l2, by rw [e1]; rfl, .cons (by omega) e2, by simp only [List.length_cons]; omega⟩
theorem Fl.uniq {rs : List Int} {k : Nat} {l : List Int} (h : Fl rs k l) : ∀ {m r s : List Int}, Fl rs k m → l ++ r = m ++ s → l = m ∧ r = s := by
 induction h with
 | nil => intro m r s hm e; rw [hm.zero] at e ⊢; exact ⟨rfl, e⟩
 | @cons n k l h hr ih =>
  intro m r s hm e
  cases hm with
  | @cons n' _ m h' hr' =>
   simp only [List.cons_append, List.cons.injEq] at e
   obtain ⟨rfl, e⟩ := e
   obtain ⟨rfl, rfl⟩ := ih hr' e
   exact ⟨rfl, rfl⟩
theorem Fl.pre {rs : List Int} {k : Nat} {l : List Int} (h : Fl rs k l) {m : List Int} (hm : Fl rs k m) {r : List Int} (e : l = m ++ r) : l = m ∧ r = [] := by
 have := Fl.uniq h hm (r := []) (s := r) (by simpa using e)
 exact ⟨this.1, this.2.symm⟩
theorem termOk_fl {rs t : List Int} (h : TermOkP rs t) : Fl rs 1 t := by
 obtain ⟨_, _, h3⟩ := h
 unfold endS at h3
 rw [List.drop_zero] at h3
 obtain ⟨l1, l2, e1, e2, e3⟩ := scan_fl t 1 0 _ (by omega) h3 (by omega)
 have : l2 = [] := by
  have := congrArg List.length e1
  rw [List.length_append] at this
  exact List.length_eq_zero_iff.1 (by omega)
 rw [e1, this, List.append_nil]; exact e2
theorem fl_termOk {rs t : List Int} (hs : SigOkP rs) (h : Fl rs 1 t) (hl : t.length ≤ 60) : TermOkP rs t := by
 refine ⟨hs, ⟨h.len, hl⟩, ?_⟩
 have := h.scan [] 0 (by omega)
 unfold endS
 rw [List.drop_zero]
 simpa using this
theorem endS_app {rs : List Int} {p u r : List Int} (h : Fl rs 1 u) : endS rs (p ++ (u ++ r)) p.length = p.length + u.length := by
 unfold endS
 rw [List.drop_left]
 exact h.scan r p.length (by omega)
theorem Fl.at {rs : List Int} : ∀ (l : List Int) (k a : Nat), Fl rs k l → a < l.length → ∃ p u r, l = p ++ (u ++ r) ∧ p.length = a ∧ Fl rs 1 u
 | [], _, a, _, ha => absurd ha (Nat.not_lt_zero _)
 | n :: l, k, 0, h, _ => by
  obtain ⟨k, rfl⟩ : ∃ q, k = q + 1 := by cases h; exact ⟨_, rfl⟩
  obtain ⟨l1, l2, e, h1, _⟩ := Fl.split (n :: l) 1 k (by rw [Nat.add_comm]; exact h)
  exact ⟨[], l1, l2, e, rfl, h1⟩
 | n :: l, k, a + 1, h, ha => by
  cases h with
  | cons h r =>
   obtain ⟨p, u, s, e, hp, hu⟩ := Fl.at l _ a r (by simpa using ha)
   exact ⟨n :: p, u, s, by rw [e]; rfl, by simp [hp], hu⟩
theorem TermOkP.at {rs t : List Int} (h : TermOkP rs t) {a : Nat} (ha : a < t.length) : ∃ p u r, t = p ++ (u ++ r) ∧ p.length = a ∧ Fl rs 1 u := Fl.at t 1 a (termOk_fl h) ha
def subS (rs t : List Int) (a : Nat) : List Int := (t.take (endS rs t a).toNat).drop a
theorem subS_app {rs p u r : List Int} (h : Fl rs 1 u) : subS rs (p ++ (u ++ r)) p.length = u := by
 unfold subS
 rw [endS_app h, show ((p.length : Int) + u.length).toNat = p.length + u.length by omega, ← List.append_assoc, List.take_left' (by simp), List.drop_left]
theorem subS_ok {rs t : List Int} (h : TermOkP rs t) {a : Nat} (ha : a < t.length) : TermOkP rs (subS rs t a) := by
 obtain ⟨p, u, r, rfl, rfl, hu⟩ := h.at ha
 rw [subS_app hu]
 refine fl_termOk h.1 hu ?_
 have := h.2.1.2
 simp only [List.length_append] at this
 omega
theorem endS_ge {rs t : List Int} (h : TermOkP rs t) {a : Nat} (ha : a < t.length) : a < endS rs t a ∧ endS rs t a ≤ t.length := by
 obtain ⟨p, u, r, rfl, rfl, hu⟩ := h.at ha
 rw [endS_app hu]
 have := hu.len
 simp only [List.length_append]
 omega
def begS (rs t : List Int) : Nat → Nat → List Nat
 | 0, _ => []
 | k + 1, a => a :: begS rs t k (endS rs t a).toNat
def argsS (rs t : List Int) (a : Nat) : List Nat := begS rs t (arS rs (t.getD a default)).toNat (a + 1)
theorem begS_length (rs t : List Int) : ∀ k a, (begS rs t k a).length = k
 | 0, _ => rfl
 | k + 1, a => by simp [begS, begS_length rs t k]
theorem begS_fl {rs : List Int} : ∀ (k : Nat) (p l r : List Int), Fl rs k l → ∀ x ∈ begS rs (p ++ (l ++ r)) k p.length, p.length ≤ x ∧ x < (p ++ l).length
 | 0, _, _, _, _, x, hx => by cases hx
 | k + 1, p, l, r, h, x, hx => by
  obtain ⟨l1, l2, rfl, h1, h2⟩ := Fl.split l 1 k (by rw [Nat.add_comm]; exact h)
  have hl := h1.len
  simp only [begS, List.mem_cons] at hx
  rcases hx with rfl | hx
  ·simp only [List.length_append]; omega
  ·rw [List.append_assoc, endS_app h1, show ((p.length : Int) + l1.length).toNat = (p ++ l1).length by simp; omega, ← List.append_assoc p l1 (l2 ++ r)] at hx
   have := begS_fl k (p ++ l1) l2 r h2 x hx
   simp only [List.length_append] at this ⊢
   omega
def nthB (rs t : List Int) (a : Nat) : Nat → Nat
 | 0 => a
 | j + 1 => (endS rs t (nthB rs t a j)).toNat
theorem nthB_shift (rs t : List Int) (a : Nat) : ∀ j, nthB rs t a (j + 1) = nthB rs t (endS rs t a).toNat j
 | 0 => rfl
 | j + 1 => by
  show (endS rs t (nthB rs t a (j + 1))).toNat = _
  rw [nthB_shift rs t a j]
  rfl
theorem begS_snoc (rs t : List Int) : ∀ (k a : Nat), begS rs t (k + 1) a = begS rs t k a ++ [nthB rs t a k]
 | 0, a => rfl
 | k + 1, a => by
  show a :: begS rs t (k + 1) (endS rs t a).toNat = _
  rw [begS_snoc rs t k, nthB_shift]
  rfl
theorem begS_get (rs t : List Int) : ∀ (k a j : Nat), j < k → (begS rs t k a).getD j default = nthB rs t a j
 | 0, _, _, h => absurd h (Nat.not_lt_zero _)
 | k + 1, a, 0, _ => rfl
 | k + 1, a, j + 1, h => by
  rw [nthB_shift, ← begS_get rs t k _ j (by omega)]
  rfl
theorem Fl.cut {rs : List Int} (p r : List Int) : ∀ (j : Nat) (k : Nat) (l : List Int), Fl rs k l → j ≤ k → ∃ l1 l2, l = l1 ++ l2 ∧ Fl rs j l1 ∧ Fl rs (k - j) l2 ∧ nthB rs (p ++ (l ++ r)) p.length j = (p ++ l1).length
 | 0, k, l, h, _ => ⟨[], l, rfl, .nil, by simpa using h, by simp [nthB]⟩
 | j + 1, k, l, h, hj => by
  obtain ⟨l1, l2, rfl, h1, h2, h3⟩ := Fl.cut p r j k l h (by omega)
  obtain ⟨m1, m2, rfl, h4, h5⟩ := Fl.split l2 1 (k - (j + 1)) (by rw [show 1 + (k - (j + 1)) = k - j by omega]; exact h2)
  refine ⟨l1 ++ m1, m2, by simp, h1.app h4, h5, ?_⟩
  have e : p ++ (l1 ++ (m1 ++ m2) ++ r) = (p ++ l1) ++ (m1 ++ (m2 ++ r)) := by simp
  show (endS rs _ (nthB rs _ _ j)).toNat = _
  rw [h3, e, endS_app h4]
  simp only [List.length_append]; omega
theorem args_cut {rs t : List Int} (h : TermOkP rs t) {a : Nat} (ha : a < t.length) : ∃ p l r, t = p ++ (t.getD a default :: l ++ r) ∧ p.length = a ∧ 0 ≤ arS rs (t.getD a default) ∧ Fl rs (arS rs (t.getD a default)).toNat l := by
 obtain ⟨p, u, r, e, rfl, hu⟩ := h.at ha
 cases hu with
 | @cons n k l h0 hr =>
  have hn : t.getD p.length default = n := by rw [e]; simp [List.getD]
  rw [hn]
  exact ⟨p, l, r, by rw [e], rfl, h0, by rw [Nat.zero_add] at hr; exact hr⟩
theorem argsS_lt {rs t : List Int} (h : TermOkP rs t) {a : Nat} (ha : a < t.length) : ∀ x ∈ argsS rs t a, a < x ∧ x < t.length := by
 obtain ⟨p, l, r, e, rfl, h0, hl⟩ := args_cut h ha
 intro x hx
 unfold argsS at hx
 have e2 : t = (p ++ [t.getD p.length default]) ++ (l ++ r) := by simpa using e
 have hlen : (p ++ [t.getD p.length default]).length = p.length + 1 := by simp
 have := begS_fl _ (p ++ [t.getD p.length default]) l r hl x (by rw [← e2, hlen]; exact hx)
 have h3 := congrArg List.length e2
 simp only [List.length_append, List.length_cons, List.length_nil] at this h3
 omega
theorem nthB_lt {rs t : List Int} (h : TermOkP rs t) {a : Nat} (ha : a < t.length) {j : Nat} (hj : j < (arS rs (t.getD a default)).toNat) : a < nthB rs t (a + 1) j ∧ nthB rs t (a + 1) j < t.length := by
 rw [← begS_get rs t _ (a + 1) j hj]
 exact argsS_lt h ha _ (getD_mem _ _ (by unfold argsS; rw [begS_length]; exact hj))
theorem nthB_le {rs t : List Int} (h : TermOkP rs t) {a : Nat} (ha : a < t.length) : ∀ {j : Nat}, j ≤ (arS rs (t.getD a default)).toNat → a < nthB rs t (a + 1) j ∧ nthB rs t (a + 1) j ≤ t.length
 | 0, _ => by simp only [nthB]; omega
 | j + 1, hj => by
  obtain ⟨h1, h2⟩ := nthB_lt h ha (show j < _ by omega)
  have := endS_ge h h2
  simp only [nthB]
  omega
end Go.Proofs.Ytlcdahaihlflaaa
end
section
namespace Go.Proofs.Ytlcdahaihlflaaa
open Go Go.Lg
set_option linter.unusedSimpArgs false
set_option linter.unusedVariables false
set_option maxHeartbeats 4000000
attribute [local irreducible] SW runL runQ runG runQG FC LopsW
end Go.Proofs.Ytlcdahaihlflaaa
end
section
namespace Go.Proofs.Ytlcdahaihlflaaa
open Go Go.Lg
set_option linter.unusedSimpArgs false
set_option linter.unusedVariables false
set_option maxHeartbeats 4000000
attribute [local irreducible] SW runL runQ runG runQG FC Ret1
def natD (n : Nat) : D := .int .i64 n
attribute [go_sem] natD
theorem arS_low {rs : List Int} {x : Int} (h : 0 ≤ arS rs x) : -24 ≤ x ∧ x < rs.length := by
 unfold arS at h
 split at h
 ·have : 0 ≤ (rs.length : Int) := by omega
  omega
 ·split at h
  ·omega
  ·omega
theorem TermOkP.ar {rs t : List Int} (h : TermOkP rs t) : ∀ x ∈ t, 0 ≤ arS rs x := fun x hx => by
 have := h.2.2
 unfold endS at this
 rw [List.drop_zero] at this
 exact scan_all (rs := rs) t 1 0 (by omega) x hx
theorem TermOkP.low {rs t : List Int} (h : TermOkP rs t) {a : Nat} (ha : a < t.length) : (-24 ≤ t.getD a default ∧ t.getD a default < rs.length) ∧ 0 ≤ arS rs (t.getD a default) ∧ arS rs (t.getD a default) ≤ 3 :=
 ⟨arS_low (h.ar _ (getD_mem t a ha)), h.ar _ (getD_mem t a ha), (arS_rng h.1 _).2⟩
def kp134 : List (Nat × List Nat) := [(0, [1, 2, 3]), (1, [6])]
attribute [go_sem] kp134
theorem subAt_fc (tk tk' : Tk) (rs t : List Int) (a : Nat) (hT : TermOkP rs t) (ha : a < t.length) : FC S 134 [] [] [] [.agg [.sl tk (rs.map (.int .i64))], .sl tk' (t.map (.int .i64)), .int .i64 a] (.sl .any ((subS rs t a).map (.int .i64))) [] [] := by
 have he := endS_ge hT ha
 have hl := hT.2.1.2
 refine fc_body Try.func134 rfl (by kernel_rfl) (by simp [Try.f134]) fun B => ?_
 simp only [Try.ntmps134, enumD, lst0, Nat.reduceAdd]
 refine sw_bnd 1 rfl fun hb1 => ?_
 simp only [D.bnd, List.length_map] at hb1
 repeat' first | refine sw_seq ?_ | refine sw_skip ?_ | refine sw_go 0 kp134 fun K hK => ?_ | refine fun (K : KT) (hK : KOk S 0 _ _ _ K) => ?_ | ((first | refine runL_go ?_ | refine sw_ret (ret0 ?_) | refine sw_ret ?_); simp (disch := (refine Om.mk ?_; omega)) only [go_sem, Try.results134]) | (refine hK.nil ?_; clear hK K; simp only [go_sem]) | refine sw_loopEnd ?_ | refine hK.c0 rfl rfl rfl (endAt_fc _ _ rs t a hT.1 hT.ge hl (by omega)) rfl rfl rfl ?_ | (with_reducible refine And.intro (by first | omega | (simp only [lens]; omega)) ?_) | fail
 rfl
def kp133 : List (Nat × List Nat) := [(0, [1, 2, 3]), (1, [1, 2, 3, 7]), (2, [1, 2, 3, 7, 8]), (3, [1, 3, 7, 8, 9]), (4, [1, 3, 7, 8, 9, 19]), (6, [1, 3, 7, 8, 9]), (7, [1, 3, 7, 8, 9]), (5, [1, 3, 7, 8, 9]), (8, [6])]
attribute [go_sem] kp133
end Go.Proofs.Ytlcdahaihlflaaa
end
section
namespace Go.Proofs.Ytlcdahaihlflaaa
open Go Go.Lg
def SameHd (a b : List Int) : Prop := a.getD 0 default = b.getD 0 default ∧ 0 ≤ a.getD 0 default
instance (a b : List Int) : Decidable (SameHd a b) := inferInstanceAs (Decidable (_ ∧ _))
theorem sub_sub {rs t : List Int} (h : TermOkP rs t) {i : Nat} (hi : i < t.length) : (subS rs t i).getD 0 default = t.getD i default ∧ ∀ j < (arS rs (t.getD i default)).toNat, subS rs (subS rs t i) (nthB rs (subS rs t i) 1 j) = subS rs t (nthB rs t (i + 1) j) := by
 obtain ⟨p, l, r, e, rfl, h0, hl⟩ := args_cut h hi
 have hu : Fl rs 1 (t.getD p.length default :: l) := by
  have : Fl rs (0 + 1) (t.getD p.length default :: l) := .cons h0 (by rw [Nat.zero_add]; exact hl)
  rwa [Nat.zero_add] at this
 have es : subS rs t p.length = t.getD p.length default :: l := by
  conv => lhs; rw [e]
  exact subS_app hu
 rw [es]
 refine ⟨rfl, fun j hj => ?_⟩
 generalize hx : t.getD p.length default = x at *
 obtain ⟨l1, l2, rfl, c1, c2, c3⟩ := Fl.cut [x] [] j _ l hl (by omega)
 obtain ⟨d1, d2, d3, d4, d5, d6⟩ := Fl.cut (p ++ [x]) r j _ (l1 ++ l2) hl (by omega)
 obtain ⟨rfl, rfl⟩ := c1.uniq d4 d3
 obtain ⟨u, r2, rfl, u1, _⟩ := Fl.split l2 1 (_ - (j + 1)) (by rw [show 1 + ((arS rs x).toNat - (j + 1)) = (arS rs x).toNat - j by omega]; exact c2)
 simp only [List.append_nil, List.length_append, List.length_cons, List.length_nil] at c3 d6
 have e1 : x :: (l1 ++ (u ++ r2)) = ([x] ++ l1) ++ (u ++ r2) := by simp
 have e2 : t = (p ++ [x] ++ l1) ++ (u ++ (r2 ++ r)) := by rw [e]; simp
 have c3' : nthB rs (x :: (l1 ++ (u ++ r2))) 1 j = ([x] ++ l1).length := by
  have : [x] ++ (l1 ++ (u ++ r2)) = x :: (l1 ++ (u ++ r2)) := rfl
  rw [this] at c3
  simp at c3 ⊢; omega
 have d6' : nthB rs t (p.length + 1) j = (p ++ [x] ++ l1).length := by
  have : p ++ [x] ++ (l1 ++ (u ++ r2) ++ r) = t := by rw [e]; simp
  rw [this] at d6
  simp at d6 ⊢; omega
 rw [c3', d6']
 conv => lhs; rw [e1]
 conv => rhs; rw [e2]
 rw [subS_app u1, subS_app u1]
end Go.Proofs.Ytlcdahaihlflaaa
end
section
namespace Go.Proofs.Ytlcdahaihlflaaa
open Go Go.Lg
set_option linter.unusedSimpArgs false
set_option linter.unusedVariables false
end Go.Proofs.Ytlcdahaihlflaaa
end
section
namespace Go.Proofs.Ytlcdahaihlflaaa
open Go Go.Lg
set_option linter.unusedSimpArgs false
set_option maxHeartbeats 4000000
attribute [local irreducible] SW runL runQ runG runQG FC
def RuleOkP (rs l r : List Int) : Prop := (TermOkP rs l ∧ TermOkP rs r ∧ 0 ≤ l.getD 0 default) ∧ ∀ j < r.length, r.getD j default < 0 → r.getD j default ∈ l
def kp123 : List (Nat × List Nat) := [(0, [2, 3]), (1, [3, 24]), (2, [4]), (3, [3, 5]), (4, [3, 5, 29]), (6, [3, 5, 48]), (7, [4]), (5, [3, 5]), (8, [4])]
attribute [go_sem] kp123
theorem specRuleOk_fc (tk tk1 tk2 : Tk) (rs l r : List Int) : FC S 123 [] [] [] [.agg [.sl tk (rs.map (.int .i64))], .agg [.sl tk1 (l.map (.int .i64)), .sl tk2 (r.map (.int .i64))]] (.bool (tst (RuleOkP rs l r))) [] [] := by
 have hl1 : TermOkP rs l → 1 ≤ l.length := fun h => h.2.1.1
 unfold RuleOkP
 refine fc_body Try.func123 rfl (by kernel_rfl) (by simp [Try.f123]) fun B => ?_
 simp only [Try.ntmps123, enumD, lst0, Nat.reduceAdd]
 refine sw_bnd_agg 0 0 rfl rfl fun hb0_0 => ?_
 simp only [D.bnd, List.length_map] at hb0_0
 refine sw_bnd_agg 1 0 rfl rfl fun hb1_0 => ?_
 simp only [D.bnd, List.length_map] at hb1_0
 refine sw_bnd_agg 1 1 rfl rfl fun hb1_1 => ?_
 simp only [D.bnd, List.length_map] at hb1_1
 repeat' first | refine sw_seq ?_ | refine sw_block ?_ | refine sw_inBlock ?_ | refine sw_skip ?_ | refine sw_go 0 kp123 fun K hK => ?_ | refine fun (K : KT) (hK : KOk S 0 _ _ _ K) => ?_ | refine sw_goD kp123 (by kernel_rfl) fun K hK => ?_ | ((first | refine runL_go ?_ | refine runQ_go ?_ | refine sw_ret (ret0 ?_) | refine sw_ret ?_); simp (disch := (refine Om.mk ?_; omega)) only [go_sem, Try.results123]) | (refine hK.nil ?_; clear hK K; simp only [go_sem]) | ((first | refine runG_fork rfl rfl rfl rfl rfl ?_ ?_ | refine runQG_fork rfl rfl rfl rfl rfl ?_ ?_ | refine sw_cond rfl ?_ ?_) <;> intro h <;> try simp (disch := (refine Om.mk ?_; omega)) only [go_sem] at h) | refine hK.skp rfl rfl ?_ | refine sw_exit rfl ?_ | refine sw_loopEnd ?_ | refine hK.c0 rfl rfl rfl (specTermOk_fc _ _ _ _) rfl rfl rfl ?_ | (refine hK.fork rfl rfl rfl ?_ ?_ <;> intro h <;> try simp (disch := (refine Om.mk ?_; omega)) only [go_sem] at h) | (with_reducible refine And.intro (by first | omega | (simp only [lens]; omega)) ?_) | fail
 ·rintro ⟨⟨h1, _⟩, _⟩; contradiction
 ·rintro ⟨⟨_, h1, _⟩, _⟩; contradiction
 have hl2 := hl1 (by assumption)
 simp (disch := (refine Om.mk ?_; omega)) only [go_sem]
 repeat' first | refine sw_seq ?_ | refine sw_block ?_ | refine sw_inBlock ?_ | refine sw_skip ?_ | refine sw_go 0 kp123 fun K hK => ?_ | refine fun (K : KT) (hK : KOk S 0 _ _ _ K) => ?_ | refine sw_goD kp123 (by kernel_rfl) fun K hK => ?_ | ((first | refine runL_go ?_ | refine runQ_go ?_ | refine sw_ret (ret0 ?_) | refine sw_ret ?_); simp (disch := (refine Om.mk ?_; omega)) only [go_sem, Try.results123]) | (refine hK.nil ?_; clear hK K; simp only [go_sem]) | ((first | refine runG_fork rfl rfl rfl rfl rfl ?_ ?_ | refine runQG_fork rfl rfl rfl rfl rfl ?_ ?_ | refine sw_cond rfl ?_ ?_) <;> intro h <;> try simp (disch := (refine Om.mk ?_; omega)) only [go_sem] at h) | refine hK.skp rfl rfl ?_ | refine sw_exit rfl ?_ | refine sw_loopEnd ?_ | (refine hK.fork rfl rfl rfl ?_ ?_ <;> intro h <;> try simp (disch := (refine Om.mk ?_; omega)) only [go_sem] at h) | (with_reducible refine And.intro (by first | omega | (simp only [lens]; omega)) ?_) | fail
 ·rintro ⟨⟨_, _, h1⟩, _⟩; omega
 refine sw_loopU (ι := Nat) (fun i => [(5, .int .i64 i)]) (fun _ => []) (fun i => i ≤ r.length ∧ (∀ j < i, r.getD j default < 0 → r.getD j default ∈ l)) (fun i => r.length - i) 0 (by (refine covers_mk0 rfl rfl ?_ ?_ ?_ ?_ <;> simp (disch := (refine Om.mk ?_; omega)) only [go_sem] <;> (try omega))) ⟨by omega, ?_⟩ (fun i ⟨hi, hj⟩ => ?_)
 rotate_left
 simp only [go_sem]
 repeat' first | refine sw_seq ?_ | refine sw_block ?_ | refine sw_inBlock ?_ | refine sw_skip ?_ | refine sw_go 0 kp123 fun K hK => ?_ | refine fun (K : KT) (hK : KOk S 0 _ _ _ K) => ?_ | refine sw_goD kp123 (by kernel_rfl) fun K hK => ?_ | ((first | refine runL_go ?_ | refine runQ_go ?_ | refine sw_ret (ret0 ?_) | refine sw_ret ?_); simp (disch := (refine Om.mk ?_; omega)) only [go_sem, Try.results123]) | (refine hK.nil ?_; clear hK K; simp only [go_sem]) | ((first | refine runG_fork rfl rfl rfl rfl rfl ?_ ?_ | refine runQG_fork rfl rfl rfl rfl rfl ?_ ?_ | refine sw_cond rfl ?_ ?_) <;> intro h <;> try simp (disch := (refine Om.mk ?_; omega)) only [go_sem] at h) | refine hK.skp rfl rfl ?_ | refine sw_exit rfl ?_ | refine sw_loopEnd ?_ | refine hK.c0 rfl rfl rfl (l1Has_fc _ _ _) rfl rfl rfl ?_ | (refine hK.fork rfl rfl rfl ?_ ?_ <;> intro h <;> try simp (disch := (refine Om.mk ?_; omega)) only [go_sem] at h) | (with_reducible refine And.intro (by first | omega | (simp only [lens]; omega)) ?_) | fail
 ·rintro ⟨_, h2⟩; exact absurd (h2 i (by omega) (by assumption)) h
 ·exact ⟨i + 1, by (refine covers_mk0 rfl rfl ?_ ?_ ?_ ?_ <;> simp (disch := (refine Om.mk ?_; omega)) only [go_sem] <;> (try omega)), ⟨by omega, upto_succ hj fun _ => h⟩, by omega⟩
 ·exact ⟨i + 1, by (refine covers_mk0 rfl rfl ?_ ?_ ?_ ?_ <;> simp (disch := (refine Om.mk ?_; omega)) only [go_sem] <;> (try omega)), ⟨by omega, upto_succ hj fun h0 => by omega⟩, by omega⟩
 ·exact ⟨⟨by assumption, by assumption, by omega⟩, fun j hj' => hj j (by omega)⟩
 ·intro j hj'; omega
def kp129 : List (Nat × List Nat) := [(0, [2, 3]), (1, [3, 25]), (2, [4]), (3, [3, 27, 28, 29]), (4, [3, 27, 28, 29, 30]), (5, [3, 6, 27, 28, 29]), (6, [3, 27, 28, 29, 41]), (7, [4]), (8, [3, 27, 28, 29]), (9, [4])]
attribute [go_sem] kp129
theorem implRuleOk_fc (tk tk1 tk2 : Tk) (rs l r : List Int) : FC S 129 [] [] [] [.agg [.sl tk (rs.map (.int .i64))], .agg [.sl tk1 (l.map (.int .i64)), .sl tk2 (r.map (.int .i64))]] (.bool (tst (RuleOkP rs l r))) [] [] := by
 have hl1 : TermOkP rs l → 1 ≤ l.length := fun h => h.2.1.1
 unfold RuleOkP
 refine fc_body Try.func129 rfl (by kernel_rfl) (by simp [Try.f129]) fun B => ?_
 simp only [Try.ntmps129, enumD, lst0, Nat.reduceAdd]
 refine sw_bnd_agg 0 0 rfl rfl fun hb0_0 => ?_
 simp only [D.bnd, List.length_map] at hb0_0
 refine sw_bnd_agg 1 0 rfl rfl fun hb1_0 => ?_
 simp only [D.bnd, List.length_map] at hb1_0
 refine sw_bnd_agg 1 1 rfl rfl fun hb1_1 => ?_
 simp only [D.bnd, List.length_map] at hb1_1
 repeat' first | refine sw_seq ?_ | refine sw_block ?_ | refine sw_inBlock ?_ | refine sw_skip ?_ | refine sw_go 0 kp129 fun K hK => ?_ | refine fun (K : KT) (hK : KOk S 0 _ _ _ K) => ?_ | ((first | refine runL_go ?_ | refine sw_ret (ret0 ?_) | refine sw_ret ?_); simp (disch := (refine Om.mk ?_; omega)) only [go_sem, Try.results129]) | (refine hK.nil ?_; clear hK K; simp only [go_sem]) | ((first | refine runG_fork rfl rfl rfl rfl rfl ?_ ?_ | refine sw_cond rfl ?_ ?_) <;> intro h <;> try simp (disch := (refine Om.mk ?_; omega)) only [go_sem] at h) | refine hK.skp rfl rfl ?_ | refine sw_exit rfl ?_ | refine sw_loopEnd ?_ | refine hK.c0 rfl rfl rfl (implTermOk_fc _ _ _ _) rfl rfl rfl ?_ | (refine hK.fork rfl rfl rfl ?_ ?_ <;> intro h <;> try simp (disch := (refine Om.mk ?_; omega)) only [go_sem] at h) | (with_reducible refine And.intro (by first | omega | (simp only [lens]; omega)) ?_) | fail
 ·rintro ⟨⟨h1, _⟩, _⟩; contradiction
 ·rintro ⟨⟨_, h1, _⟩, _⟩; contradiction
 have hl2 := hl1 (by assumption)
 simp (disch := (refine Om.mk ?_; omega)) only [go_sem]
 repeat' first | refine sw_seq ?_ | refine sw_block ?_ | refine sw_inBlock ?_ | refine sw_skip ?_ | refine sw_go 0 kp129 fun K hK => ?_ | refine fun (K : KT) (hK : KOk S 0 _ _ _ K) => ?_ | ((first | refine runL_go ?_ | refine sw_ret (ret0 ?_) | refine sw_ret ?_); simp (disch := (refine Om.mk ?_; omega)) only [go_sem, Try.results129]) | (refine hK.nil ?_; clear hK K; simp only [go_sem]) | ((first | refine runG_fork rfl rfl rfl rfl rfl ?_ ?_ | refine sw_cond rfl ?_ ?_) <;> intro h <;> try simp (disch := (refine Om.mk ?_; omega)) only [go_sem] at h) | refine hK.skp rfl rfl ?_ | refine sw_exit rfl ?_ | refine sw_loopEnd ?_ | (refine hK.fork rfl rfl rfl ?_ ?_ <;> intro h <;> try simp (disch := (refine Om.mk ?_; omega)) only [go_sem] at h) | (with_reducible refine And.intro (by first | omega | (simp only [lens]; omega)) ?_) | fail
 ·rintro ⟨⟨_, _, h1⟩, _⟩; omega
 refine sw_loopU (ι := Nat) (fun i => [(29, .int .i64 i)]) (fun _ => []) (fun i => i ≤ r.length ∧ (∀ j < i, r.getD j default < 0 → r.getD j default ∈ l)) (fun i => r.length - i) 0 (by (refine covers_mk0 rfl rfl ?_ ?_ ?_ ?_ <;> simp (disch := (refine Om.mk ?_; omega)) only [go_sem] <;> (try omega))) ⟨by omega, ?_⟩ (fun i ⟨hi, hj⟩ => ?_)
 rotate_left
 simp only [go_sem]
 repeat' first | refine sw_seq ?_ | refine sw_block ?_ | refine sw_inBlock ?_ | refine sw_skip ?_ | refine sw_go 0 kp129 fun K hK => ?_ | refine fun (K : KT) (hK : KOk S 0 _ _ _ K) => ?_ | ((first | refine runL_go ?_ | refine sw_ret (ret0 ?_) | refine sw_ret ?_); simp (disch := (refine Om.mk ?_; omega)) only [go_sem, Try.results129]) | (refine hK.nil ?_; clear hK K; simp only [go_sem]) | ((first | refine runG_fork rfl rfl rfl rfl rfl ?_ ?_ | refine sw_cond rfl ?_ ?_) <;> intro h <;> try simp (disch := (refine Om.mk ?_; omega)) only [go_sem] at h) | refine hK.skp rfl rfl ?_ | refine sw_exit rfl ?_ | refine sw_loopEnd ?_ | refine hK.c0 rfl rfl rfl (contains_fc _ _ _) rfl rfl rfl ?_ | (refine hK.fork rfl rfl rfl ?_ ?_ <;> intro h <;> try simp (disch := (refine Om.mk ?_; omega)) only [go_sem] at h) | (with_reducible refine And.intro (by first | omega | (simp only [lens]; omega)) ?_) | fail
 ·rintro ⟨_, h2⟩; exact absurd (h2 i (by omega) (by assumption)) h
 ·exact ⟨i + 1, by (refine covers_mk0 rfl rfl ?_ ?_ ?_ ?_ <;> simp (disch := (refine Om.mk ?_; omega)) only [go_sem] <;> (try omega)), ⟨by omega, upto_succ hj fun _ => h⟩, by omega⟩
 ·exact ⟨i + 1, by (refine covers_mk0 rfl rfl ?_ ?_ ?_ ?_ <;> simp (disch := (refine Om.mk ?_; omega)) only [go_sem] <;> (try omega)), ⟨by omega, upto_succ hj fun h0 => by omega⟩, by omega⟩
 ·exact ⟨⟨by assumption, by assumption, by omega⟩, fun j hj' => hj j (by omega)⟩
 ·intro j hj'; omega
end Go.Proofs.Ytlcdahaihlflaaa
end
section
namespace Go.Proofs.Ytlcdahaihlflaaa
open Go Go.Lg
set_option linter.unusedSimpArgs false
set_option linter.unusedVariables false
set_option maxHeartbeats 4000000
attribute [local irreducible] SW runL runQ runG runQG FC
attribute [go_sem] upR_length mapR_length mapR_getDm
def RuleP (rs : List Int) (r : RuleT) : Prop := RuleOkP rs r.l r.r
def SystemOkP (x : SystemT) : Prop := (SigOkP x.sig ∧ x.rules.length ≤ 12) ∧ ∀ j < x.rules.length, RuleP x.sig (x.rules.getD j default)
theorem SystemOkP.len {x : SystemT} (h : SystemOkP x) (j : Nat) (hj : j < x.rules.length) : (1 ≤ (x.rules.getD j default).l.length ∧ (x.rules.getD j default).l.length ≤ 60) ∧ (1 ≤ (x.rules.getD j default).r.length ∧ (x.rules.getD j default).r.length ≤ 60) :=
 ⟨(h.2 j hj).1.1.2.1, (h.2 j hj).1.2.1.2.1⟩
def kp108 : List (Nat × List Nat) := [(0, [1]), (1, [1, 13]), (2, [2]), (3, [1, 3]), (4, [1, 3, 18]), (6, [1, 3, 29]), (7, [2]), (5, [1, 3]), (8, [2])]
attribute [go_sem] kp108
theorem specSystemOk_fc (x : SystemT) : FC S 108 [] [] [] [SystemD x] (.bool (tst (SystemOkP x))) [] [] := by
 refine fc_body Try.func108 rfl (by kernel_rfl) (by simp [Try.f108]) fun B => ?_
 simp only [Try.ntmps108, enumD, lst0, Nat.reduceAdd]
 refine sw_bnd_agg 0 1 rfl rfl fun hb0_1 => ?_
 simp only [D.bnd, List.length_map] at hb0_1
 repeat' first | refine sw_seq ?_ | refine sw_block ?_ | refine sw_inBlock ?_ | refine sw_skip ?_ | refine sw_go 0 kp108 fun K hK => ?_ | refine fun (K : KT) (hK : KOk S 0 _ _ _ K) => ?_ | refine sw_goD kp108 (by kernel_rfl) fun K hK => ?_ | ((first | refine runL_go ?_ | refine runQ_go ?_ | refine sw_ret (ret0 ?_) | refine sw_ret ?_); simp (disch := (refine Om.mk ?_; omega)) only [go_sem, Try.results108]) | (refine hK.nil ?_; clear hK K; simp only [go_sem]) | ((first | refine runG_fork rfl rfl rfl rfl rfl ?_ ?_ | refine runQG_fork rfl rfl rfl rfl rfl ?_ ?_ | refine sw_cond rfl ?_ ?_) <;> intro h <;> try simp (disch := (refine Om.mk ?_; omega)) only [go_sem] at h) | refine hK.skp rfl rfl ?_ | refine sw_exit rfl ?_ | refine sw_loopEnd ?_ | refine hK.c0 rfl rfl rfl (specSigOk_fc _ _) rfl rfl rfl ?_ | (refine hK.fork rfl rfl rfl ?_ ?_ <;> intro h <;> try simp (disch := (refine Om.mk ?_; omega)) only [go_sem] at h) | (with_reducible refine And.intro (by first | omega | (simp only [lens]; omega)) ?_) | fail
 ·rintro ⟨⟨h1, _⟩, _⟩; contradiction
 ·rintro ⟨⟨_, h1⟩, _⟩; omega
 refine sw_loopU (ι := Nat) (fun i => [(3, .int .i64 i)]) (fun _ => []) (fun i => i ≤ x.rules.length ∧ (∀ j < i, RuleP x.sig (x.rules.getD j default))) (fun i => x.rules.length - i) 0 (by (refine covers_mk0 rfl rfl ?_ ?_ ?_ ?_ <;> simp (disch := (refine Om.mk ?_; omega)) only [go_sem] <;> (try omega))) ⟨by omega, ?_⟩ (fun i ⟨hi, hj⟩ => ?_)
 rotate_left
 simp only [go_sem]
 repeat' first | refine sw_seq ?_ | refine sw_block ?_ | refine sw_inBlock ?_ | refine sw_skip ?_ | refine sw_go 0 kp108 fun K hK => ?_ | refine fun (K : KT) (hK : KOk S 0 _ _ _ K) => ?_ | refine sw_goD kp108 (by kernel_rfl) fun K hK => ?_ | ((first | refine runL_go ?_ | refine runQ_go ?_ | refine sw_ret (ret0 ?_) | refine sw_ret ?_); simp (disch := (refine Om.mk ?_; omega)) only [go_sem, Try.results108]) | (refine hK.nil ?_; clear hK K; simp only [go_sem]) | ((first | refine runG_fork rfl rfl rfl rfl rfl ?_ ?_ | refine runQG_fork rfl rfl rfl rfl rfl ?_ ?_ | refine sw_cond rfl ?_ ?_) <;> intro h <;> try simp (disch := (refine Om.mk ?_; omega)) only [go_sem] at h) | refine hK.skp rfl rfl ?_ | refine sw_exit rfl ?_ | refine sw_loopEnd ?_ | refine hK.c0 rfl rfl rfl (specRuleOk_fc _ _ _ x.sig (x.rules.getD i default).l (x.rules.getD i default).r) rfl rfl rfl ?_ | (refine hK.fork rfl rfl rfl ?_ ?_ <;> intro h <;> try simp (disch := (refine Om.mk ?_; omega)) only [go_sem] at h) | (with_reducible refine And.intro (by first | omega | (simp only [lens]; omega)) ?_) | fail
 ·rintro ⟨_, h2⟩; exact h (h2 i (by omega))
 ·exact ⟨i + 1, by (refine covers_mk0 rfl rfl ?_ ?_ ?_ ?_ <;> simp (disch := (refine Om.mk ?_; omega)) only [go_sem] <;> (try omega)), ⟨by omega, upto_succ hj h⟩, by omega⟩
 ·exact ⟨⟨by assumption, by omega⟩, fun j hj' => hj j (by omega)⟩
 ·intro j hj'; omega
def kp115 : List (Nat × List Nat) := [(0, [1]), (1, [1, 14]), (2, [2]), (3, [1, 16, 17, 18]), (4, [1, 16, 17, 18, 19]), (5, [1, 4, 16, 17, 18]), (6, [1, 16, 17, 18, 26]), (7, [2]), (8, [1, 16, 17, 18]), (9, [2])]
attribute [go_sem] kp115
theorem implSystemOk_fc (x : SystemT) : FC S 115 [] [] [] [SystemD x] (.bool (tst (SystemOkP x))) [] [] := by
 refine fc_body Try.func115 rfl (by kernel_rfl) (by simp [Try.f115]) fun B => ?_
 simp only [Try.ntmps115, enumD, lst0, Nat.reduceAdd]
 refine sw_bnd_agg 0 1 rfl rfl fun hb0_1 => ?_
 simp only [D.bnd, List.length_map] at hb0_1
 repeat' first | refine sw_seq ?_ | refine sw_block ?_ | refine sw_inBlock ?_ | refine sw_skip ?_ | refine sw_go 0 kp115 fun K hK => ?_ | refine fun (K : KT) (hK : KOk S 0 _ _ _ K) => ?_ | ((first | refine runL_go ?_ | refine sw_ret (ret0 ?_) | refine sw_ret ?_); simp (disch := (refine Om.mk ?_; omega)) only [go_sem, Try.results115]) | (refine hK.nil ?_; clear hK K; simp only [go_sem]) | ((first | refine runG_fork rfl rfl rfl rfl rfl ?_ ?_ | refine sw_cond rfl ?_ ?_) <;> intro h <;> try simp (disch := (refine Om.mk ?_; omega)) only [go_sem] at h) | refine hK.skp rfl rfl ?_ | refine sw_exit rfl ?_ | refine sw_loopEnd ?_ | refine hK.c0 rfl rfl rfl (implSigOk_fc _ _) rfl rfl rfl ?_ | (refine hK.fork rfl rfl rfl ?_ ?_ <;> intro h <;> try simp (disch := (refine Om.mk ?_; omega)) only [go_sem] at h) | (with_reducible refine And.intro (by first | omega | (simp only [lens]; omega)) ?_) | fail
 ·rintro ⟨⟨h1, _⟩, _⟩; contradiction
 ·rintro ⟨⟨_, h1⟩, _⟩; omega
 refine sw_loopU (ι := Nat) (fun i => [(18, .int .i64 i)]) (fun _ => []) (fun i => i ≤ x.rules.length ∧ (∀ j < i, RuleP x.sig (x.rules.getD j default))) (fun i => x.rules.length - i) 0 (by (refine covers_mk0 rfl rfl ?_ ?_ ?_ ?_ <;> simp (disch := (refine Om.mk ?_; omega)) only [go_sem] <;> (try omega))) ⟨by omega, ?_⟩ (fun i ⟨hi, hj⟩ => ?_)
 rotate_left
 simp only [go_sem]
 repeat' first | refine sw_seq ?_ | refine sw_block ?_ | refine sw_inBlock ?_ | refine sw_skip ?_ | refine sw_go 0 kp115 fun K hK => ?_ | refine fun (K : KT) (hK : KOk S 0 _ _ _ K) => ?_ | ((first | refine runL_go ?_ | refine sw_ret (ret0 ?_) | refine sw_ret ?_); simp (disch := (refine Om.mk ?_; omega)) only [go_sem, Try.results115]) | (refine hK.nil ?_; clear hK K; simp only [go_sem]) | ((first | refine runG_fork rfl rfl rfl rfl rfl ?_ ?_ | refine sw_cond rfl ?_ ?_) <;> intro h <;> try simp (disch := (refine Om.mk ?_; omega)) only [go_sem] at h) | refine hK.skp rfl rfl ?_ | refine sw_exit rfl ?_ | refine sw_loopEnd ?_ | refine hK.c0 rfl rfl rfl (implRuleOk_fc _ _ _ x.sig (x.rules.getD i default).l (x.rules.getD i default).r) rfl rfl rfl ?_ | (refine hK.fork rfl rfl rfl ?_ ?_ <;> intro h <;> try simp (disch := (refine Om.mk ?_; omega)) only [go_sem] at h) | (with_reducible refine And.intro (by first | omega | (simp only [lens]; omega)) ?_) | fail
 ·rintro ⟨_, h2⟩; exact h (h2 i (by omega))
 ·exact ⟨i + 1, by (refine covers_mk0 rfl rfl ?_ ?_ ?_ ?_ <;> simp (disch := (refine Om.mk ?_; omega)) only [go_sem] <;> (try omega)), ⟨by omega, upto_succ hj h⟩, by omega⟩
 ·exact ⟨⟨by assumption, by omega⟩, fun j hj' => hj j (by omega)⟩
 ·intro j hj'; omega
end Go.Proofs.Ytlcdahaihlflaaa
end
section
namespace Go.Proofs.Ytlcdahaihlflaaa
open Go Go.Lg
set_option linter.unusedSimpArgs false
set_option linter.unusedVariables false
set_option maxHeartbeats 4000000
attribute [local irreducible] SW runL runQ runG runQG FC Ret1 toF redoL
theorem end_step {rs t : List Int} {a i : Nat} {need m : Int} (hi : i < t.length) (h3 : 1 ≤ need) (h4 : endS rs t a = scan rs (t.drop i) need i) (h0 : 0 ≤ arS rs (t.getD i default)) (hm : m = need + arS rs (t.getD i default) - 1) : (m = 0 ∧ endS rs t a = ((i + 1 : Nat) : Int)) ∨ (1 ≤ m ∧ endS rs t a = scan rs (t.drop (i + 1)) m (i + 1)) := by
 have hb := scan_step rs t need i hi
 rw [if_neg (by omega)] at hb
 subst hm
 by_cases h : need + arS rs (t.getD i default) - 1 = 0
 ·rw [if_pos h] at hb
  exact .inl ⟨h, by rw [h4, hb]; omega⟩
 ·rw [if_neg h] at hb
  exact .inr ⟨by omega, by rw [h4, hb]⟩
def kp152 : List (Nat × List Nat) := [(0, [1, 2, 3]), (1, [1, 2, 3, 7]), (2, [1, 2, 3, 7, 9]), (3, [1, 2, 3, 7, 14]), (4, [1, 2, 3, 7]), (5, [1, 2, 3, 7]), (6, [1, 2, 3, 7]), (7, [6])]
attribute [go_sem] kp152
theorem l13End_fc (rs t : List Int) (a : Nat) (hT : TermOkP rs t) (ha : a < t.length) : FC S 152 [] [] [] [.agg [.sl .any (rs.map (.int .i64))], .sl .any (t.map (.int .i64)), .int .i64 a] (.int .i64 (endS rs t a)) [] [] := by
 have he := endS_ge hT ha
 have hl := hT.2.1.2
 refine fc_body Try.func152 rfl (by kernel_rfl) (by simp [Try.f152]) fun B => ?_
 simp only [Try.ntmps152, enumD, lst0, Nat.reduceAdd]
 refine sw_bnd 1 rfl fun hb1 => ?_
 simp only [D.bnd, List.length_map] at hb1
 repeat' first | refine sw_seq ?_ | refine sw_block ?_ | refine sw_inBlock ?_ | refine sw_skip ?_ | refine sw_go 0 kp152 fun K hK => ?_ | refine fun (K : KT) (hK : KOk S 0 _ _ _ K) => ?_ | refine sw_goD kp152 (by kernel_rfl) fun K hK => ?_ | ((first | refine runL_go ?_ | refine runQ_go ?_ | refine sw_ret (ret0 ?_) | refine sw_ret ?_); simp (disch := (refine Om.mk ?_; omega)) only [go_sem, Try.results152]) | (refine hK.nil ?_; clear hK K; simp only [go_sem]) | ((first | refine sw_cond rfl ?_ ?_) <;> intro h <;> try simp (disch := (refine Om.mk ?_; omega)) only [go_sem] at h) | refine sw_exit rfl ?_ | refine sw_loopEnd ?_ | (with_reducible refine And.intro (by first | omega | (simp only [lens]; omega)) ?_) | fail
 refine sw_loopU (ι := Nat × Int) (fun p => [(2, .int .i64 p.1), (7, .int .i64 p.2)]) (fun p => []) (fun p => (p.1 ≤ t.length ∧ 0 ≤ p.2 ∧ p.2 ≤ 1 + 3 * p.1) ∧ ((p.2 = 0 ∧ endS rs t a = p.1) ∨ (1 ≤ p.2 ∧ endS rs t a = scan rs (t.drop p.1) p.2 p.1))) (fun p => t.length - p.1) (a, 1) (by (refine covers_mk0 rfl rfl ?_ ?_ ?_ ?_ <;> simp (disch := (refine Om.mk ?_; omega)) only [go_sem] <;> (try omega))) ?_ (fun p hp => ?_)
 rotate_left
 simp only [go_sem]
 obtain ⟨i, need⟩ := p
 obtain ⟨⟨h1, h2, h2'⟩, h3⟩ := hp
 dsimp only at h1 h2 h2' h3
 have hlt : 1 ≤ need → i < t.length := fun h => Classical.byContradiction fun hn => by
  have hx := scan_end rs t need i (by omega)
  omega
 have hlow : i < t.length → _ := fun h => hT.low h
 have hv : i < t.length → t.getD i default < 0 → arS rs (t.getD i default) = 0 := fun hi h => arS_var (by have := hlow hi; omega)
 have hsy : 0 ≤ t.getD i default → t.getD i default < rs.length → arS rs (t.getD i default) = rs.getD (t.getD i default).toNat default := fun h h' => arS_sym (by omega)
 repeat' first | refine sw_seq ?_ | refine sw_block ?_ | refine sw_inBlock ?_ | refine sw_skip ?_ | refine sw_go 0 kp152 fun K hK => ?_ | refine fun (K : KT) (hK : KOk S 0 _ _ _ K) => ?_ | refine sw_goD kp152 (by kernel_rfl) fun K hK => ?_ | ((first | refine runL_go ?_ | refine runQ_go ?_ | refine sw_ret (ret0 ?_) | refine sw_ret ?_); simp (disch := (refine Om.mk ?_; omega)) only [go_sem, Try.results152]) | (refine hK.nil ?_; clear hK K; simp only [go_sem]) | ((first | refine sw_cond rfl ?_ ?_) <;> intro h <;> try simp (disch := (refine Om.mk ?_; omega)) only [go_sem] at h) | refine sw_exit rfl ?_ | refine sw_loopEnd ?_ | (with_reducible refine And.intro (by first | omega | (simp only [lens]; omega)) ?_) | fail
 ·have hi := hlt (by omega)
  have e := hsy (by omega) (hlow hi).1.2
  have hl0 := (hlow hi).2
  exact ⟨(i + 1, need + rs.getD (t.getD i default).toNat default - 1), by (refine covers_mk0 rfl rfl ?_ ?_ ?_ ?_ <;> simp (disch := (refine Om.mk ?_; omega)) only [go_sem] <;> (try omega)), ⟨⟨by omega, by omega, by omega⟩, end_step (need := need) (m := need + rs.getD (t.getD i default).toNat default - 1) hi (by omega) (by omega) hl0.1 (by rw [e])⟩, by omega⟩
 ·have hi := hlt (by omega)
  have e := hv hi (by omega)
  exact ⟨(i + 1, need - 1), by (refine covers_mk0 rfl rfl ?_ ?_ ?_ ?_ <;> simp (disch := (refine Om.mk ?_; omega)) only [go_sem] <;> (try omega)), ⟨⟨by omega, by omega, by omega⟩, end_step (need := need) (m := need - 1) hi (by omega) (by omega) (by omega) (by rw [e]; omega)⟩, by omega⟩
 ·omega
 ·exact .inr ⟨by simp, rfl⟩
def kp176 : List (Nat × List Nat) := [(0, [1, 2]), (1, [1, 2, 5]), (2, [1, 2, 5, 13]), (3, [4]), (4, [1, 2, 5, 6]), (5, [1, 2, 5, 6, 7]), (6, [1, 2, 5, 6, 7, 23]), (8, [1, 2, 5, 6, 7, 8]), (9, [1, 2, 5, 7, 8]), (10, [1, 2, 5, 6, 7]), (7, [1, 2, 5, 6, 7]), (11, [4])]
attribute [go_sem] kp176
end Go.Proofs.Ytlcdahaihlflaaa
end
section
namespace Go.Proofs.Ytlcdahaihlflaaa
open Go Go.Lg
set_option linter.unusedSimpArgs false
set_option linter.unusedVariables false
set_option maxHeartbeats 4000000
attribute [local irreducible] SW runL runQ runG runQG FC Ret1 toF redoL
theorem flat_zeros (n : Nat) (k : IntKind) (m : Int) : (List.replicate n [D.int k m]).flatten = (List.replicate n m).map (.int k) := by rw [flatten_one, List.map_replicate]
theorem idsL_intsF (k : IntKind) (xs : List Int) : D.idsL (xs.map (.int k)) = [] := by
 induction xs with
 | nil => rfl
 | cons x r ih => simp [D.idsL, D.ids, ih]
attribute [local go_sem] flat_zeros idsL_intsF
end Go.Proofs.Ytlcdahaihlflaaa
end
section
namespace Go.Proofs.Ytlcdahaihlflaaa
open Go Go.Lg
def kp90 : List (Nat × List Nat) := [(0, [0]), (1, [0, 4]), (2, [2]), (3, [2])]
attribute [go_sem] kp90
end Go.Proofs.Ytlcdahaihlflaaa
end
section
namespace Go.Proofs.Ytlcdahaihlflaaa
open Go Go.Lg
set_option linter.unusedSimpArgs false
set_option linter.unusedVariables false
set_option maxHeartbeats 4000000
attribute [local irreducible] SW runL runQ runG runQG FC
theorem take_snoc {α : Type} [Inhabited α] (xs : List α) (i : Nat) (h : i < xs.length) : xs.take (i + 1) = xs.take i ++ [xs.getD i default] := by
 rw [List.take_succ_eq_append_getElem h]
 simp [List.getD, List.getElem?_eq_getElem h]
theorem cloneL_fc (p : List Nat) (hp : p ≠ []) (tk : Tk) (xs : List Int) (h1 : xs ≠ []) (hl : xs.length ≤ 17592186044416) : FC S 90 [] [] [] [.sl tk (xs.map (.int .i64))] (Int64SL p xs) [] [] := by
 have h1' : xs.map (D.int .i64) ≠ [] := by simpa using h1
 refine FC.args (args' := [.sl .any (xs.map (.int .i64))]) ?_ (by simp only [go_sem])
 refine fc_body Try.func90 rfl (by kernel_rfl) (by simp [Try.f90]) fun B => ?_
 simp only [Try.ntmps90, enumD, lst0, Nat.reduceAdd]
 refine sw_bnd 0 rfl fun hb0 => ?_
 simp only [D.bnd, List.length_map] at hb0
 repeat' first | (refine sw_lab 2 p (k := 8000) rfl (by simp) hp ?_; simp only [go_sem]) | refine sw_seq ?_ | refine sw_skip ?_ | refine sw_go 0 kp90 fun K hK => ?_ | refine fun (K : KT) (hK : KOk S 0 _ _ _ K) => ?_ | ((first | refine runL_go ?_ | refine sw_ret (ret0 ?_) | refine sw_ret ?_); simp (disch := (refine Om.mk ?_; omega)) only [go_sem, Try.results90]) | (refine hK.nil ?_; clear hK K; simp only [go_sem]) | ((first | refine sw_cond rfl ?_ ?_) <;> intro h <;> try simp (disch := (refine Om.mk ?_; omega)) only [go_sem] at h) | (with_reducible refine And.intro (by first | omega | (simp only [lens]; omega)) ?_) | ((with_reducible refine And.intro ?_ ?_); · first | (intro x hx; subst hx; rfl) | exact upR_mem fun _ _ => rfl | exact mapR_mem fun _ _ => rfl | (intro x; refine And.intro ?_ ?_ <;> (intros; subst_vars; rfl))) | fail
end Go.Proofs.Ytlcdahaihlflaaa
end
section
namespace Go.Proofs.Ytlcdahaihlflaaa
open Go Go.Lg
set_option linter.unusedSimpArgs false
set_option linter.unusedVariables false
set_option maxHeartbeats 4000000
attribute [local irreducible] SW runL runQ runG runQG FC Ret1
def defL (rules : List RuleT) (i : Nat) : List Int := (rules.take i).foldl (fun acc r => intoL acc (r.l.getD 0 default)) []
theorem defL_succ (rules : List RuleT) (i : Nat) (h : i < rules.length) : defL rules (i + 1) = intoL (defL rules i) ((rules.getD i default).l.getD 0 default) := by
 unfold defL
 rw [take_snoc rules i h, List.foldl_append]
 rfl
theorem intoL_len' (n : Int) : ∀ xs : List Int, (intoL xs n).length ≤ xs.length + 1
 | [] => by simp [intoL]
 | x :: r => by
  have ih := intoL_len' n r
  unfold intoL
  split
  ·simp only [List.length_cons]; omega
  ·split <;> simp
theorem defL_len (rules : List RuleT) : ∀ i, i ≤ rules.length → (defL rules i).length ≤ i
 | 0, _ => by simp [defL]
 | i + 1, h => by
  have ih := defL_len rules i (by omega)
  rw [defL_succ rules i (by omega)]
  have := intoL_len' ((rules.getD i default).l.getD 0 default) (defL rules i)
  omega
theorem defL_mem (rules : List RuleT) (m : Int) : ∀ i, i ≤ rules.length → (m ∈ defL rules i ↔ ∃ j < i, (rules.getD j default).l.getD 0 default = m)
 | 0, _ => by simp [defL]
 | i + 1, h => by
  rw [defL_succ rules i (by omega), mem_intoL, defL_mem rules m i (by omega)]
  constructor
  ·rintro (⟨j, hj, e⟩ | e)
   ·exact ⟨j, by omega, e⟩
   ·exact ⟨i, by omega, e.symm⟩
  ·rintro ⟨j, hj, e⟩
   rcases Nat.lt_or_ge j i with h1 | h1
   ·exact .inl ⟨j, h1, e⟩
   ·rw [show j = i by omega] at e; exact .inr e.symm
theorem defL_all (rules : List RuleT) (m : Int) : m ∈ defL rules rules.length ↔ ∃ r ∈ rules, r.l.getD 0 default = m := by
 rw [defL_mem rules m _ (Nat.le_refl _)]
 constructor
 ·rintro ⟨j, hj, e⟩; exact ⟨_, getD_mem rules j hj, e⟩
 ·rintro ⟨r, hr, e⟩
  obtain ⟨j, hj, rfl⟩ := List.getElem_of_mem hr
  exact ⟨j, hj, by rw [← e]; simp [List.getD, List.getElem?_eq_getElem hj]⟩
def kp151 : List (Nat × List Nat) := [(0, [1]), (1, [1, 3]), (2, [1, 3, 4]), (3, [1, 3, 4, 10]), (5, [1, 3, 4]), (4, [1, 3, 4]), (6, [2])]
attribute [go_sem] kp151
theorem l6Defined_fc (x : SystemT) (hn : x.rules.length ≤ 1000) (h : ∀ j < x.rules.length, 1 ≤ (x.rules.getD j default).l.length) : FC S 151 [] [] [] [SystemD x] (.sl .any ((defL x.rules x.rules.length).map (.int .i64))) [] [] := by
 refine fc_body Try.func151 rfl (by kernel_rfl) (by simp [Try.f151]) fun B => ?_
 simp only [Try.ntmps151, enumD, lst0, Nat.reduceAdd]
 repeat' first | refine sw_seq ?_ | refine sw_block ?_ | refine sw_inBlock ?_ | refine sw_skip ?_ | refine sw_go 0 kp151 fun K hK => ?_ | refine fun (K : KT) (hK : KOk S 0 _ _ _ K) => ?_ | ((first | refine runL_go ?_ | refine sw_ret (ret0 ?_) | refine sw_ret ?_); simp (disch := (refine Om.mk ?_; omega)) only [go_sem, Try.results151]) | (refine hK.nil ?_; clear hK K; simp only [go_sem]) | ((first | refine sw_cond rfl ?_ ?_) <;> intro h <;> try simp (disch := (refine Om.mk ?_; omega)) only [go_sem] at h) | refine sw_exit rfl ?_ | refine sw_loopEnd ?_ | (with_reducible refine And.intro (by first | omega | (simp only [lens]; omega)) ?_) | ((with_reducible refine And.intro ?_ ?_); · first | (intro x hx; subst hx; rfl) | (intro x; refine And.intro ?_ ?_ <;> (intros; subst_vars; rfl))) | fail
 refine sw_loopU (ι := Nat) (fun p => [(4, .int .i64 p), (3, .sl .any ((defL x.rules p).map (.int .i64)))]) (fun p => []) (fun p => p ≤ x.rules.length) (fun p => x.rules.length - p) 0 (by (refine covers_mk0 rfl rfl ?_ ?_ ?_ ?_ <;> simp (disch := (refine Om.mk ?_; omega)) only [go_sem] <;> (try omega)); exact ⟨rfl, rfl⟩) ?_ (fun p hp => ?_)
 rotate_left
 simp only [go_sem]
 have hl := defL_len x.rules p hp
 have hs := defL_succ x.rules p
 have h1 := h p
 repeat' first | refine sw_seq ?_ | refine sw_block ?_ | refine sw_inBlock ?_ | refine sw_skip ?_ | refine sw_go 0 kp151 fun K hK => ?_ | refine fun (K : KT) (hK : KOk S 0 _ _ _ K) => ?_ | ((first | refine runL_go ?_ | refine sw_ret (ret0 ?_) | refine sw_ret ?_); simp (disch := (refine Om.mk ?_; omega)) only [go_sem, Try.results151]) | (refine hK.nil ?_; clear hK K; simp only [go_sem]) | ((first | refine sw_cond rfl ?_ ?_) <;> intro h <;> try simp (disch := (refine Om.mk ?_; omega)) only [go_sem] at h) | refine sw_exit rfl ?_ | refine sw_loopEnd ?_ | refine hK.c0 rfl rfl rfl (l1Into_fc _ (defL x.rules p) _ (by omega)) rfl rfl rfl ?_ | (with_reducible refine And.intro (by first | omega | (simp only [lens]; omega)) ?_) | ((with_reducible refine And.intro ?_ ?_); · first | (intro x hx; subst hx; rfl) | (intro x; refine And.intro ?_ ?_ <;> (intros; subst_vars; rfl))) | fail
 ·exact ⟨p + 1, (by (refine covers_mk0 rfl rfl ?_ ?_ ?_ ?_ <;> simp (disch := (refine Om.mk ?_; omega)) only [go_sem] <;> (try omega)); rw [hs (by omega)]; exact ⟨rfl, by omega⟩), by omega, by omega⟩
 ·rw [show p = x.rules.length by omega]
 ·omega
end Go.Proofs.Ytlcdahaihlflaaa
end
section
namespace Go.Proofs.Ytlcdahaihlflaaa
open Go Go.Lg
set_option linter.unusedSimpArgs false
set_option linter.unusedVariables false
def HasSub (rs t : List Int) (k : Nat) (u : List Int) : Prop := ∃ a, (k ≤ a ∧ a < t.length) ∧ subS rs t a = u
def DefP (x : SystemT) (n : Int) : Prop := ∃ r ∈ x.rules, r.l.getD 0 default = n
def PairP (x : SystemT) (r a : Nat) : Prop := (0 ≤ (x.rules.getD r default).r.getD a default ∧ DefP x ((x.rules.getD r default).r.getD a default)) ∧ ¬ HasSub x.sig (x.rules.getD r default).l 1 (subS x.sig (x.rules.getD r default).r a)
def mkP (x : SystemT) (r a : Nat) : DepPairT := ⟨(x.rules.getD r default).l, subS x.sig (x.rules.getD r default).r a, r, a⟩
open Classical in
noncomputable def prR (x : SystemT) (r : Nat) : Nat → List DepPairT
 | 0 => []
 | a + 1 => if PairP x r a then prR x r a ++ [mkP x r a] else prR x r a
noncomputable def prA (x : SystemT) : Nat → List DepPairT
 | 0 => []
 | r + 1 => prA x r ++ prR x r (x.rules.getD r default).r.length
theorem prR_yes {x : SystemT} {r a : Nat} (h : PairP x r a) : prR x r (a + 1) = prR x r a ++ [mkP x r a] := if_pos h
theorem prR_no {x : SystemT} {r a : Nat} (h : ¬ PairP x r a) : prR x r (a + 1) = prR x r a := if_neg h
theorem prR_len (x : SystemT) (r : Nat) : ∀ a, (prR x r a).length ≤ a
 | 0 => Nat.le_refl _
 | a + 1 => by
  have ih := prR_len x r a
  rcases Classical.em (PairP x r a) with h | h
  ·rw [prR_yes h, List.length_append]; simp; omega
  ·rw [prR_no h]; omega
theorem prA_len {x : SystemT} (hx : SystemOkP x) : ∀ r ≤ x.rules.length, (prA x r).length ≤ 60 * r
 | 0, _ => Nat.le_refl _
 | r + 1, h => by
  have ih := prA_len hx r (by omega)
  have h1 := prR_len x r (x.rules.getD r default).r.length
  have h2 := (hx.2 r (by omega)).1.2.1.2.1
  simp only [prA, List.length_append]
  omega
def PrOk (rs : List Int) (p : DepPairT) : Prop := (TermOkP rs p.l ∧ TermOkP rs p.r) ∧ 0 ≤ p.l.getD 0 default ∧ 0 ≤ p.r.getD 0 default
theorem prR_ok {x : SystemT} (hx : SystemOkP x) {r : Nat} (hr : r < x.rules.length) : ∀ a ≤ (x.rules.getD r default).r.length, ∀ p ∈ prR x r a, PrOk x.sig p
 | 0, _, p, hp => by cases hp
 | a + 1, ha, p, hp => by
  have ih := prR_ok hx hr a (by omega)
  have hR := hx.2 r hr
  rcases Classical.em (PairP x r a) with h | h
  ·rw [prR_yes h] at hp
   rcases List.mem_append.1 hp with hp | hp
   ·exact ih p hp
   ·rw [List.mem_singleton.1 hp]
    refine ⟨⟨hR.1.1, subS_ok hR.1.2.1 (by omega)⟩, hR.1.2.2, ?_⟩
    show 0 ≤ (subS x.sig (x.rules.getD r default).r a).getD 0 default
    rw [(sub_sub hR.1.2.1 (show a < (x.rules.getD r default).r.length by omega)).1]
    exact h.1.1
  ·rw [prR_no h] at hp; exact ih p hp
theorem prA_ok {x : SystemT} (hx : SystemOkP x) : ∀ r ≤ x.rules.length, ∀ p ∈ prA x r, PrOk x.sig p
 | 0, _, p, hp => by cases hp
 | r + 1, h, p, hp => by
  rcases List.mem_append.1 hp with hp | hp
  ·exact prA_ok hx r (by omega) p hp
  ·exact prR_ok hx (by omega) _ (Nat.le_refl _) p hp
def PairsP (x : SystemT) : Prop := SystemOkP x ∧ (prA x x.rules.length).length ≤ 64
noncomputable def allP (x : SystemT) : List DepPairT := prA x x.rules.length
open Classical in
noncomputable def pairsR (x : SystemT) : List DepPairT × Bool := if PairsP x then (allP x, true) else ([], false)
theorem pairsR_yes {x : SystemT} (h : PairsP x) : pairsR x = (allP x, true) := if_pos h
theorem pairsR_no {x : SystemT} (h : ¬ PairsP x) : pairsR x = ([], false) := if_neg h
theorem allP_ok {x : SystemT} (h : PairsP x) : ∀ p ∈ allP x, PrOk x.sig p := prA_ok h.1 _ (Nat.le_refl _)
def SetPP (set : List Int) (n : Int) : Prop := ∀ i < set.length, (0 ≤ set.getD i default ∧ set.getD i default < n) ∧ (0 < i → set.getD (i - 1) default < set.getD i default)
theorem set_len {set : List Int} {n : Int} (h : SetPP set n) : ∀ i < set.length, (i : Int) ≤ set.getD i default
 | 0, hi => by have := (h 0 hi).1.1; omega
 | i + 1, hi => by
  have ih := set_len h i (by omega)
  have := (h (i + 1) hi).2 (by omega)
  simp only [Nat.add_sub_cancel] at this
  omega
theorem set_le {set : List Int} {n : Int} (h : SetPP set n) : (set.length : Int) ≤ n ∨ set.length = 0 := by
 rcases Nat.eq_zero_or_pos set.length with h0 | h0
 ·exact .inr h0
 ·have h1 := set_len h (set.length - 1) (by omega)
  have h2 := (h (set.length - 1) (by omega)).1.2
  left; omega
end Go.Proofs.Ytlcdahaihlflaaa
end
