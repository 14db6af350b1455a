/-
  P18p, A01s, P24p, P24, P25, one behind the other.
-/
import Derived.Test.YtlcdahaihlflaaaP18a
import Derived.Test.YtlcdahaihlflaaaG1
import Derived.Test.YtlcdahaihlflaaaLgK18
import Derived.Test.YtlcdahaihlflaaaLgK10
section
namespace Go.Proofs.Ytlcdahaihlflaaa
open Go Go.Lg
set_option linter.unusedVariables false
inductive TC (r : Nat → Nat → Bool) : Nat → Nat → Prop
 | one {p q : Nat} (h : r p q = true) : TC r p q
 | step {p m q : Nat} (h : r p m = true) (t : TC r m q) : TC r p q
theorem TC.trans {r : Nat → Nat → Bool} {p m q : Nat} (h : TC r p m) (h' : TC r m q) : TC r p q := by
 induction h with
 | one h => exact .step h h'
 | step h _ ih => exact .step h (ih h')
theorem TC.snoc {r : Nat → Nat → Bool} {p m q : Nat} (h : TC r p m) (h' : r m q = true) : TC r p q := h.trans (.one h')
def leR (r r' : Nat → Nat → Bool) : Prop := ∀ a b, r a b = true → r' a b = true
theorem leR.refl (r : Nat → Nat → Bool) : leR r r := fun _ _ h => h
theorem leR.trans {r r' r'' : Nat → Nat → Bool} (h : leR r r') (h' : leR r' r'') : leR r r'' := fun a b x => h' a b (h a b x)
theorem wQ_mono (r : Nat → Nat → Bool) (m p : Nat) (ps : List Nat) (k : Nat) : leR (wQ r m p ps k) (wQ r m p ps (k + 1)) := fun a b h => by
 rw [wQ_succ]
 by_cases e : a = p
 ·rw [if_pos e]
  by_cases e2 : b = ps.getD k default
  ·show (if b = _ then _ else _) = true
   rw [if_pos e2]
   subst e; subst e2
   rw [h]; rfl
  ·show (if b = _ then _ else _) = true
   rw [if_neg e2]; exact h
 ·rw [if_neg e]; exact h
theorem wQ_le (r : Nat → Nat → Bool) (m p : Nat) (ps : List Nat) : ∀ k d, leR (wQ r m p ps k) (wQ r m p ps (k + d))
 | _, 0 => leR.refl _
 | k, d + 1 => (wQ_le r m p ps k d).trans (wQ_mono r m p ps (k + d))
theorem wQ_hit {r : Nat → Nat → Bool} {m p : Nat} {ps : List Nat} {k n : Nat} (hk : k < n) (h1 : r p m = true) (h2 : r m (ps.getD k default) = true) : wQ r m p ps n p (ps.getD k default) = true := by
 have a1 := wQ_le r m p ps 0 k p m h1
 have a2 := wQ_le r m p ps 0 k m (ps.getD k default) h2
 rw [Nat.zero_add] at a1 a2
 have : wQ r m p ps (k + 1) p (ps.getD k default) = true := by
  rw [wQ_succ, if_pos rfl]
  show (if ps.getD k default = ps.getD k default then _ else _) = true
  rw [if_pos rfl, a1, a2]
  cases wQ r m p ps k p (ps.getD k default) <;> rfl
 have h3 := wQ_le r m p ps (k + 1) (n - (k + 1)) _ _ this
 rwa [show k + 1 + (n - (k + 1)) = n by omega] at h3
theorem wP_le (r : Nat → Nat → Bool) (m : Nat) (ps : List Nat) : ∀ j d, leR (wP r m ps j) (wP r m ps (j + d))
 | _, 0 => leR.refl _
 | j, d + 1 => (wP_le r m ps j d).trans (by
   have := wQ_le (wP r m ps (j + d)) m (ps.getD (j + d) default) ps 0 ps.length
   rw [Nat.zero_add] at this
   exact this)
theorem wP_hit {r : Nat → Nat → Bool} {m : Nat} {ps : List Nat} {j n k : Nat} (hj : j < n) (hk : k < ps.length) (h1 : r (ps.getD j default) m = true) (h2 : r m (ps.getD k default) = true) : wP r m ps n (ps.getD j default) (ps.getD k default) = true := by
 have a1 := wP_le r m ps 0 j _ _ h1
 have a2 := wP_le r m ps 0 j _ _ h2
 rw [Nat.zero_add] at a1 a2
 have : wP r m ps (j + 1) (ps.getD j default) (ps.getD k default) = true := wQ_hit hk a1 a2
 have h3 := wP_le r m ps (j + 1) (n - (j + 1)) _ _ this
 rwa [show j + 1 + (n - (j + 1)) = n by omega] at h3
def Via (r : Nat → Nat → Bool) (ps : List Nat) : Nat → Nat → Nat → Prop
 | 0, p, q => r p q = true
 | i + 1, p, q => Via r ps i p q ∨ (Via r ps i p (ps.getD i default) ∧ Via r ps i (ps.getD i default) q)
theorem wM_via {r : Nat → Nat → Bool} {ps : List Nat} : ∀ i, i ≤ ps.length → ∀ a b, a < ps.length → b < ps.length → Via r ps i (ps.getD a default) (ps.getD b default) → wM ps r i (ps.getD a default) (ps.getD b default) = true
 | 0, _, a, b, _, _, h => h
 | i + 1, hi, a, b, ha, hb, h => by
  have le := wP_le (wM ps r i) (ps.getD i default) ps 0 ps.length
  rw [Nat.zero_add] at le
  rcases h with h | ⟨h1, h2⟩
  ·exact le _ _ (wM_via i (by omega) a b ha hb h)
  ·exact wP_hit ha hb (wM_via i (by omega) a i ha (by omega) h1) (wM_via i (by omega) i b (by omega) hb h2)
theorem via_trans {r : Nat → Nat → Bool} {ps : List Nat} : ∀ i, ∀ l < i, ∀ p q, Via r ps i p (ps.getD l default) → Via r ps i (ps.getD l default) q → Via r ps i p q
 | 0, l, hl, _, _, _, _ => by omega
 | i + 1, l, hl, p, q, h1, h2 => by
  have ih := @via_trans r ps i
  by_cases e : l = i
  ·subst e
   have a1 : Via r ps l p (ps.getD l default) := h1.elim id fun h => h.1
   have a2 : Via r ps l (ps.getD l default) q := h2.elim id fun h => h.2
   exact .inr ⟨a1, a2⟩
  ·have hl : l < i := by omega
   rcases h1 with h1 | ⟨h1, h1'⟩ <;> rcases h2 with h2 | ⟨h2, h2'⟩
   ·exact .inl (ih l hl _ _ h1 h2)
   ·exact .inr ⟨ih l hl _ _ h1 h2, h2'⟩
   ·exact .inr ⟨h1, ih l hl _ _ h1' h2⟩
   ·exact .inr ⟨h1, h2'⟩
theorem via_le {r : Nat → Nat → Bool} {ps : List Nat} : ∀ i p q, r p q = true → Via r ps i p q
 | 0, _, _, h => h
 | i + 1, p, q, h => .inl (via_le i p q h)
theorem tc_via {r : Nat → Nat → Bool} {ps : List Nat} (hr : ∀ p q, r p q = true → q ∈ ps) {p q : Nat} (h : TC r p q) : Via r ps ps.length p q := by
 induction h with
 | one h => exact via_le _ _ _ h
 | @step p m q h _ ih =>
  obtain ⟨l, hl, e⟩ := List.getElem_of_mem (hr _ _ h)
  have e2 : ps.getD l default = m := by rw [List.getD_eq_getElem?_getD, List.getElem?_eq_getElem hl]; exact e
  have h1 : Via r ps ps.length p (ps.getD l default) := by rw [e2]; exact via_le _ _ _ h
  have h2 : Via r ps ps.length (ps.getD l default) q := by rw [e2]; exact ih
  exact via_trans _ l hl _ _ h1 h2
def sndR (r r' : Nat → Nat → Bool) : Prop := ∀ a b, r' a b = true → TC r a b
theorem wQ_snd {r0 r : Nat → Nat → Bool} (h : sndR r0 r) (m p : Nat) (ps : List Nat) : ∀ k, sndR r0 (wQ r m p ps k)
 | 0 => h
 | k + 1 => fun a b hab => by
  have ih := wQ_snd h m p ps k
  rw [wQ_succ] at hab
  by_cases e : a = p
  ·rw [if_pos e] at hab
   have h2 : (if b = ps.getD k default then wQ r m p ps k p (ps.getD k default) || (wQ r m p ps k p m && wQ r m p ps k m (ps.getD k default)) else wQ r m p ps k a b) = true := hab
   clear hab
   by_cases e2 : b = ps.getD k default
   ·rw [if_pos e2] at h2
    rw [e, e2]
    rcases (Bool.or_eq_true _ _).mp h2 with h3 | h3
    ·exact ih _ _ h3
    ·obtain ⟨h4, h5⟩ := (Bool.and_eq_true _ _).mp h3
     exact (ih _ _ h4).trans (ih _ _ h5)
   ·rw [if_neg e2] at h2
    exact ih _ _ h2
  ·rw [if_neg e] at hab
   exact ih _ _ hab
theorem wP_snd {r0 r : Nat → Nat → Bool} (h : sndR r0 r) (m : Nat) (ps : List Nat) : ∀ j, sndR r0 (wP r m ps j)
 | 0 => h
 | j + 1 => wQ_snd (wP_snd h m ps j) m _ ps _
theorem wM_snd (r : Nat → Nat → Bool) (ps : List Nat) : ∀ i, sndR r (wM ps r i)
 | 0 => fun _ _ h => .one h
 | i + 1 => wP_snd (wM_snd r ps i) _ ps _
theorem wM_tc {r : Nat → Nat → Bool} {ps : List Nat} (hr : ∀ p q, r p q = true → q ∈ ps) {a b : Nat} (ha : a ∈ ps) (hb : b ∈ ps) : wM ps r ps.length a b = true ↔ TC r a b := by
 refine ⟨wM_snd r ps _ a b, fun h => ?_⟩
 obtain ⟨i, hi, rfl⟩ := List.getElem_of_mem ha
 obtain ⟨j, hj, rfl⟩ := List.getElem_of_mem hb
 have hv := tc_via hr h
 have e1 : ps.getD i default = ps[i] := by rw [List.getD_eq_getElem?_getD, List.getElem?_eq_getElem hi]; rfl
 have e2 : ps.getD j default = ps[j] := by rw [List.getD_eq_getElem?_getD, List.getElem?_eq_getElem hj]; rfl
 rw [← e1, ← e2] at hv ⊢
 exact wM_via _ (Nat.le_refl _) i j hi hj hv
theorem r0_mem {edges : List (List Int)} {set : List Int} {p q : Nat} (h : r0 edges set p q = true) : q ∈ natS set := by
 unfold r0 at h
 rw [tst_iff] at h
 exact List.mem_map.2 ⟨_, h.2, by simp⟩
end Go.Proofs.Ytlcdahaihlflaaa
end
section
namespace Go.Proofs.Ytlcdahaihlflaaa
open Go Go.Lg
def SortP (l : List Int) : Prop := l.Pairwise (· < ·)
theorem sort_intoL (n : Int) : ∀ xs : List Int, SortP xs → SortP (intoL xs n)
 | [], _ => by simp [SortP, intoL]
 | x :: r, h => by
  obtain ⟨h1, h2⟩ := List.pairwise_cons.1 h
  unfold intoL
  split
  ·rename_i hlt
   refine List.pairwise_cons.2 ⟨fun y hy => ?_, sort_intoL n r h2⟩
   rcases (mem_intoL y r n).1 hy with hy | rfl
   ·exact h1 y hy
   ·exact hlt
  ·split
   ·exact h
   ·rename_i h3 h4
    refine List.pairwise_cons.2 ⟨fun y hy => ?_, h⟩
    rcases List.mem_cons.1 hy with rfl | hy
    ·omega
    ·have := h1 y hy; omega
theorem sort_ext : ∀ {a b : List Int}, SortP a → SortP b → (∀ x, x ∈ a ↔ x ∈ b) → a = b
 | [], [], _, _, _ => rfl
 | [], y :: b, _, _, h => by have := (h y).2 List.mem_cons_self; cases this
 | x :: a, [], _, _, h => by have := (h x).1 List.mem_cons_self; cases this
 | x :: a, y :: b, ha, hb, h => by
  obtain ⟨a1, a2⟩ := List.pairwise_cons.1 ha
  obtain ⟨b1, b2⟩ := List.pairwise_cons.1 hb
  have hxy : x = y := by
   rcases List.mem_cons.1 ((h x).1 List.mem_cons_self) with e | e
   ·exact e
   ·rcases List.mem_cons.1 ((h y).2 List.mem_cons_self) with e' | e'
    ·exact e'.symm
    ·have := a1 y e'; have := b1 x e; omega
  subst hxy
  congr 1
  refine sort_ext a2 b2 fun z => ?_
  constructor
  ·intro hz
   rcases List.mem_cons.1 ((h z).1 (List.mem_cons_of_mem _ hz)) with e | e
   ·have := a1 z hz; omega
   ·exact e
  ·intro hz
   rcases List.mem_cons.1 ((h z).2 (List.mem_cons_of_mem _ hz)) with e | e
   ·have := b1 z hz; omega
   ·exact e
def upTo (n : Nat) : List Int := (List.range n).map fun (i : Nat) => (i : Int)
theorem sort_upTo (n : Nat) : SortP (upTo n) := by
 unfold SortP upTo
 rw [List.pairwise_map]
 exact List.pairwise_lt_range.imp fun h => by omega
theorem mem_upTo (n : Nat) (x : Int) : x ∈ upTo n ↔ 0 ≤ x ∧ x < n := by
 unfold upTo
 rw [List.mem_map]
 constructor
 ·rintro ⟨i, hi, rfl⟩
  have := List.mem_range.1 hi
  omega
 ·intro h
  exact ⟨x.toNat, List.mem_range.2 (by omega), by omega⟩
end Go.Proofs.Ytlcdahaihlflaaa
end
section
namespace Go.Proofs.Ytlcdahaihlflaaa
open Go Go.Lg
set_option linter.unusedVariables false
theorem intoL_new {n : Int} : ∀ {xs : List Int}, n ∉ xs → (intoL xs n).length = xs.length + 1
 | [], _ => rfl
 | x :: r, h => by
  unfold intoL
  split
  ·simp only [List.length_cons, intoL_new (xs := r) fun e => h (List.mem_cons_of_mem _ e)]
  ·split
   ·rename_i e; exact absurd (e ▸ List.mem_cons_self) h
   ·rfl
theorem sort_sub {out set : List Int} (h : SortP out) (hs : SortP set) (hh : ∀ q ∈ out, q ∈ set) : out.length ≤ set.length := by
 have e : out = set.filter fun q => decide (q ∈ out) := sort_ext h (List.Pairwise.filter _ hs) fun x => by
  rw [List.mem_filter]
  exact ⟨fun hx => ⟨hh x hx, decide_eq_true hx⟩, fun hx => of_decide_eq_true hx.2⟩
 rw [e]; exact List.length_filter_le _ _
noncomputable def aftR (edges : List (List Int)) (set : List Int) (a : Int) : List Int := set.filter fun q => tst (TC (r0 edges set) a.toNat q.toNat)
theorem mem_aft {edges : List (List Int)} {set : List Int} {a q : Int} : q ∈ aftR edges set a ↔ q ∈ set ∧ TC (r0 edges set) a.toNat q.toNat := by
 unfold aftR
 rw [List.mem_filter, tst_iff]
def Clo (edges : List (List Int)) (set out : List Int) (p : Int) : Prop := ∀ q ∈ set, q ∈ edges.getD p.toNat default → q ∈ out
structure AftI (edges : List (List Int)) (set : List Int) (a : Int) (out todo : List Int) : Prop where
 srt : SortP out
 sub : ∀ q ∈ out, q ∈ set ∧ TC (r0 edges set) a.toNat q.toNat
 tod : ∀ q ∈ todo, q = a ∨ q ∈ out
 clo : ∀ p, (p = a ∨ p ∈ out) → p ∈ todo ∨ Clo edges set out p
structure AftJ (edges : List (List Int)) (set : List Int) (a p : Int) (i : Nat) (out todo : List Int) : Prop where
 srt : SortP out
 sub : ∀ q ∈ out, q ∈ set ∧ TC (r0 edges set) a.toNat q.toNat
 tod : ∀ q ∈ todo, q = a ∨ q ∈ out
 pin : p = a ∨ p ∈ out
 clo : ∀ p', (p' = a ∨ p' ∈ out) → p' = p ∨ p' ∈ todo ∨ Clo edges set out p'
 pre : ∀ q ∈ set, q ∈ (edges.getD p.toNat default).take i → q ∈ out
def mAft (set out todo : List Int) : Nat := 2 * (set.length - out.length) + todo.length
section
variable {edges : List (List Int)} {set : List Int} {a : Int}
theorem AftI.start : AftI edges set a [] [a] :=
 ⟨List.Pairwise.nil, fun q hq => (by cases hq), fun q hq => .inl (List.mem_singleton.1 hq), fun p hp => by
  rcases hp with rfl | hp
  ·exact .inl (List.mem_singleton.2 rfl)
  ·cases hp⟩
theorem AftI.pop {out todo : List Int} {p : Int} (h : AftI edges set a out (p :: todo)) : AftJ edges set a p 0 out todo :=
 ⟨h.srt, h.sub, fun q hq => h.tod q (List.mem_cons_of_mem _ hq), h.tod p List.mem_cons_self, fun p' hp' => by
  rcases h.clo p' hp' with h1 | h1
  ·rcases List.mem_cons.1 h1 with h1 | h1
   ·exact .inl h1
   ·exact .inr (.inl h1)
  ·exact .inr (.inr h1), fun q _ hq => by rw [List.take_zero] at hq; cases hq⟩
theorem AftJ.done {out todo : List Int} {p : Int} {i : Nat} (h : AftJ edges set a p i out todo) (hi : (edges.getD p.toNat default).length ≤ i) : AftI edges set a out todo :=
 ⟨h.srt, h.sub, h.tod, fun p' hp' => by
  rcases h.clo p' hp' with rfl | h1 | h1
  ·exact .inr fun q hq hg => h.pre q hq (by rw [List.take_of_length_le hi]; exact hg)
  ·exact .inl h1
  ·exact .inr h1⟩
theorem AftJ.skip {out todo : List Int} {p : Int} {i : Nat} (h : AftJ edges set a p i out todo) (hi : i < (edges.getD p.toNat default).length) (hq : (edges.getD p.toNat default).getD i default ∈ set → (edges.getD p.toNat default).getD i default ∈ out) : AftJ edges set a p (i + 1) out todo :=
 ⟨h.srt, h.sub, h.tod, h.pin, h.clo, fun q h1 h2 => by
  rw [take_snocP hi] at h2
  rcases List.mem_append.1 h2 with h2 | h2
  ·exact h.pre q h1 h2
  ·rw [List.mem_singleton.1 h2] at h1 ⊢; exact hq h1⟩
theorem AftJ.push {out todo : List Int} {p : Int} {i : Nat} (h : AftJ edges set a p i out todo) (ha : 0 ≤ a) (hp : ∀ q ∈ set, 0 ≤ q) (hi : i < (edges.getD p.toNat default).length) (hq : (edges.getD p.toNat default).getD i default ∈ set) : AftJ edges set a p (i + 1) (intoL out ((edges.getD p.toNat default).getD i default)) (todo ++ [(edges.getD p.toNat default).getD i default]) := by
 have hmem : ∀ x, x ∈ intoL out ((edges.getD p.toNat default).getD i default) ↔ x ∈ out ∨ x = (edges.getD p.toNat default).getD i default := fun x => mem_intoL x _ _
 have hin : (edges.getD p.toNat default).getD i default ∈ edges.getD p.toNat default := getD_mem _ _ hi
 have hr : r0 edges set p.toNat ((edges.getD p.toNat default).getD i default).toNat = true := by
  unfold r0
  rw [tst_iff, Int.toNat_of_nonneg (hp _ hq)]
  exact ⟨hin, hq⟩
 have hT : TC (r0 edges set) a.toNat ((edges.getD p.toNat default).getD i default).toNat := by
  rcases h.pin with rfl | h1
  ·exact .one hr
  ·exact (h.sub p h1).2.snoc hr
 refine ⟨sort_intoL _ _ h.srt, fun q h1 => ?_, fun q h1 => ?_, h.pin.imp id fun h1 => (hmem p).2 (.inl h1), fun p' h1 => ?_, fun q h1 h2 => ?_⟩
 ·rcases (hmem q).1 h1 with h1 | rfl
  ·exact h.sub q h1
  ·exact ⟨hq, hT⟩
 ·rcases List.mem_append.1 h1 with h1 | h1
  ·exact (h.tod q h1).imp id fun h2 => (hmem q).2 (.inl h2)
  ·rw [List.mem_singleton.1 h1]; exact .inr ((hmem _).2 (.inr rfl))
 ·have h2 : p' = (edges.getD p.toNat default).getD i default ∨ (p' = a ∨ p' ∈ out) := by
   rcases h1 with h1 | h1
   ·exact .inr (.inl h1)
   ·rcases (hmem p').1 h1 with h1 | h1
    ·exact .inr (.inr h1)
    ·exact .inl h1
  rcases h2 with h2 | h2
  ·exact .inr (.inl (by rw [h2]; simp))
  ·rcases h.clo p' h2 with h3 | h3 | h3
   ·exact .inl h3
   ·exact .inr (.inl (List.mem_append_left _ h3))
   ·exact .inr (.inr fun q k1 k2 => (hmem q).2 (.inl (h3 q k1 k2)))
 ·rw [take_snocP hi] at h2
  rcases List.mem_append.1 h2 with h2 | h2
  ·exact (hmem q).2 (.inl (h.pre q h1 h2))
  ·exact (hmem q).2 (.inr (List.mem_singleton.1 h2))
theorem AftI.reach {out : List Int} (h : AftI edges set a out []) (ha : 0 ≤ a) {p q : Nat} (ht : TC (r0 edges set) p q) : ((p : Int) = a ∨ (p : Int) ∈ out) → (q : Int) ∈ out := by
 have key : ∀ {p m : Nat}, r0 edges set p m = true → ((p : Int) = a ∨ (p : Int) ∈ out) → (m : Int) ∈ out := fun {p m} hr hp => by
  unfold r0 at hr
  rw [tst_iff] at hr
  rcases h.clo p hp with h1 | h1
  ·cases h1
  ·exact h1 m hr.2 (by rw [Int.toNat_natCast]; exact hr.1)
 induction ht with
 | one hr => exact key hr
 | step hr _ ih => exact fun hp => ih (.inr (key hr hp))
theorem AftI.eq {out : List Int} (h : AftI edges set a out []) (ha : 0 ≤ a) (hs : SortP set) (hp : ∀ q ∈ set, 0 ≤ q) : out = aftR edges set a :=
 sort_ext h.srt (List.Pairwise.filter _ hs) fun q => by
  show q ∈ out ↔ q ∈ aftR edges set a
  rw [mem_aft]
  refine ⟨h.sub q, fun hq => ?_⟩
  have := h.reach ha hq.2 (.inl (Int.toNat_of_nonneg ha))
  rwa [Int.toNat_of_nonneg (hp q hq.1)] at this
end
noncomputable def CM (edges : List (List Int)) (set : List Int) : Nat → Nat → Bool := wM (natS set) (r0 edges set) set.length
section
variable {edges : List (List Int)} {set : List Int}
theorem natS_mem {q : Int} (h : q ∈ set) : q.toNat ∈ natS set := List.mem_map.2 ⟨q, h, rfl⟩
theorem CM_tc {p q : Int} (hp : p ∈ set) (hq : q ∈ set) : CM edges set p.toNat q.toNat = true ↔ TC (r0 edges set) p.toNat q.toNat := by
 unfold CM
 rw [← natS_len]
 exact wM_tc (fun _ _ h => r0_mem h) (natS_mem hp) (natS_mem hq)
theorem CM_aft {p q : Int} (hp : p ∈ set) (hq : q ∈ set) : q ∈ aftR edges set p ↔ CM edges set p.toNat q.toNat = true := by
 rw [mem_aft, CM_tc hp hq]
 exact ⟨fun h => h.2, fun h => ⟨hq, h⟩⟩
theorem CM_trans {p m q : Int} (hp : p ∈ set) (hm : m ∈ set) (hq : q ∈ set) (h1 : CM edges set p.toNat m.toNat = true) (h2 : CM edges set m.toNat q.toNat = true) : CM edges set p.toNat q.toNat = true :=
 (CM_tc hp hq).2 (((CM_tc hp hm).1 h1).trans ((CM_tc hm hq).1 h2))
theorem both_iff {C : Nat → Nat → Bool} {p q : Nat} : bothC C p q = true ↔ C p q = true ∧ C q p = true := by unfold bothC; simp
theorem both_symm {C : Nat → Nat → Bool} {p q : Nat} : bothC C p q = bothC C q p := by unfold bothC; rw [Bool.and_comm]
theorem both_trans {p m q : Int} (hp : p ∈ set) (hm : m ∈ set) (hq : q ∈ set) (h1 : bothC (CM edges set) p.toNat m.toNat = true) (h2 : bothC (CM edges set) m.toNat q.toNat = true) : bothC (CM edges set) p.toNat q.toNat = true := by
 rw [both_iff] at *
 exact ⟨CM_trans hp hm hq h1.1 h2.1, CM_trans hq hm hp h2.2 h1.2⟩
def DoneI (edges : List (List Int)) (set : List Int) (i : Nat) (done : List Int) : Prop := ∀ q ∈ set, q ∈ done ↔ ∃ l < i, okC (CM edges set) set l ∧ bothC (CM edges set) (set.getD l default).toNat q.toNat = true
theorem DoneI.start : DoneI edges set 0 [] := fun q _ => ⟨fun h => (by cases h), fun ⟨l, h, _⟩ => absurd h (by omega)⟩
theorem DoneI.ok {i : Nat} {done : List Int} (h : DoneI edges set i done) (hi : i < set.length) : okC (CM edges set) set i ↔ (set.getD i default ∈ aftR edges set (set.getD i default) ∧ set.getD i default ∉ done) := by
 have hm : set.getD i default ∈ set := getD_mem set i hi
 rw [CM_aft hm hm, h _ hm]
 constructor
 ·rintro ⟨h1, h2⟩
  refine ⟨h1, ?_⟩
  rintro ⟨l, hl, _, h3⟩
  rw [both_symm, h2 l hl] at h3
  cases h3
 ·rintro ⟨h1, h2⟩
  refine ⟨h1, fun l hl => ?_⟩
  have key : ∀ n l, l ≤ n → l < i → bothC (CM edges set) (set.getD i default).toNat (set.getD l default).toNat = true → False := by
   intro n
   induction n with
   | zero =>
    intro l hl hli hb
    obtain rfl : l = 0 := by omega
    have hml : set.getD 0 default ∈ set := getD_mem set 0 (by omega)
    refine h2 ⟨0, hli, ⟨?_, fun l' hl' => absurd hl' (by omega)⟩, by rw [both_symm]; exact hb⟩
    have hb' := both_iff.1 hb
    exact CM_trans hml hm hml hb'.2 hb'.1
   | succ n ih =>
    intro l hl hli hb
    have hml : set.getD l default ∈ set := getD_mem set l (by omega)
    by_cases hex : ∃ l', l' < l ∧ bothC (CM edges set) (set.getD l default).toNat (set.getD l' default).toNat = true
    ·obtain ⟨l', h3, h4⟩ := hex
     exact ih l' (by omega) (by omega) (both_trans hm hml (getD_mem set l' (by omega)) hb h4)
    ·refine h2 ⟨l, hli, ⟨?_, fun l' hl' => ?_⟩, by rw [both_symm]; exact hb⟩
     ·have hb' := both_iff.1 hb
      exact CM_trans hml hm hml hb'.2 hb'.1
     ·cases hb2 : bothC (CM edges set) (set.getD l default).toNat (set.getD l' default).toNat with
      | false => rfl
      | true => exact absurd ⟨l', hl', hb2⟩ hex
  cases hb : bothC (CM edges set) (set.getD i default).toNat (set.getD l default).toNat with
  | false => rfl
  | true => exact (key l l (Nat.le_refl _) hl hb).elim
theorem DoneI.no {i : Nat} {done : List Int} (h : DoneI edges set i done) (ho : ¬ okC (CM edges set) set i) : DoneI edges set (i + 1) done := fun q hq => by
 rw [h q hq]
 constructor
 ·rintro ⟨l, h1, h2⟩; exact ⟨l, by omega, h2⟩
 ·rintro ⟨l, h1, h2, h3⟩
  rcases Nat.lt_or_ge l i with h4 | h4
  ·exact ⟨l, h4, h2, h3⟩
  ·obtain rfl : l = i := by omega
   exact absurd h2 ho
noncomputable def prS (edges : List (List Int)) (set : List Int) (i k : Nat) : List Int := (set.take k).filter fun q => bothC (CM edges set) (set.getD i default).toNat q.toNat
theorem prS_yes {i k : Nat} (hk : k < set.length) (h : bothC (CM edges set) (set.getD i default).toNat (set.getD k default).toNat = true) : prS edges set i (k + 1) = prS edges set i k ++ [set.getD k default] := by
 unfold prS
 rw [take_snocP hk, List.filter_append]
 simp only [List.filter_cons, List.filter_nil, h, if_true]
theorem prS_no {i k : Nat} (hk : k < set.length) (h : ¬ bothC (CM edges set) (set.getD i default).toNat (set.getD k default).toNat = true) : prS edges set i (k + 1) = prS edges set i k := by
 unfold prS
 rw [take_snocP hk, List.filter_append]
 simp only [List.filter_cons, List.filter_nil, if_neg h, List.append_nil]
theorem prS_zero (i : Nat) : prS edges set i 0 = [] := by unfold prS; rw [List.take_zero]; rfl
theorem prS_len (i k : Nat) : (prS edges set i k).length ≤ k := by
 unfold prS
 exact Nat.le_trans (List.length_filter_le _ _) (by rw [List.length_take]; omega)
theorem DoneI.yes {i : Nat} {done : List Int} (h : DoneI edges set i done) (ho : okC (CM edges set) set i) {k : Nat} (hk : set.length ≤ k) : DoneI edges set (i + 1) (done ++ prS edges set i k) := fun q hq => by
 unfold prS
 rw [List.take_of_length_le hk, List.mem_append, List.mem_filter, h q hq]
 constructor
 ·rintro (⟨l, h1, h2⟩ | ⟨_, h2⟩)
  ·exact ⟨l, by omega, h2⟩
  ·exact ⟨i, by omega, ho, h2⟩
 ·rintro ⟨l, h1, h2, h3⟩
  rcases Nat.lt_or_ge l i with h4 | h4
  ·exact .inl ⟨l, h4, h2, h3⟩
  ·obtain rfl : l = i := by omega
   exact .inr ⟨hq, h3⟩
theorem prS_eq {i : Nat} (hi : i < set.length) (ho : okC (CM edges set) set i) {k : Nat} (hk : set.length ≤ k) : prS edges set i k = prtJ (CM edges set) (set.getD i default).toNat (set.drop i) (set.length - i) := by
 unfold prS prtJ
 rw [List.take_of_length_le hk, List.take_of_length_le (by rw [List.length_drop]; omega)]
 have hsp : ∀ f : Int → Bool, set.filter f = (set.take i).filter f ++ (set.drop i).filter f := fun f => by rw [← List.filter_append, List.take_append_drop]
 rw [hsp]
 have : (set.take i).filter (fun q => bothC (CM edges set) (set.getD i default).toNat q.toNat) = [] := by
  rw [List.filter_eq_nil_iff]
  intro q hq
  obtain ⟨l, hl, rfl⟩ := List.getElem_of_mem hq
  rw [List.length_take] at hl
  rw [List.getElem_take]
  have := ho.2 l (by omega)
  rw [List.getD_eq_getElem?_getD (l := set) (i := l), List.getElem?_eq_getElem (by omega)] at this
  simpa using this
 rw [this, List.nil_append]
end
end Go.Proofs.Ytlcdahaihlflaaa
end
section
namespace Go.Proofs.Ytlcdahaihlflaaa
open Go Go.Lg
set_option linter.unusedSimpArgs false
set_option linter.unusedVariables false
set_option maxHeartbeats 4000000
attribute [local irreducible] SW runL runQ runG runQG FC Ret1 aftR CM
def kp111 : List (Nat × List Nat) := [(0, [0, 1, 2]), (1, [0, 1, 2, 7]), (2, [0, 1, 7, 8]), (3, [0, 1, 7, 8, 17]), (4, [0, 1, 7, 8, 9]), (5, [0, 1, 7, 8, 9]), (6, [0, 1, 7, 8, 9, 10]), (7, [0, 1, 7, 8, 9, 10, 29]), (9, [0, 1, 7, 8, 9, 10, 11]), (10, [0, 1, 7, 8, 9, 10, 11, 47]), (11, [0, 1, 7, 8, 9, 10, 11]), (12, [0, 1, 7, 8, 9, 10]), (8, [0, 1, 7, 8, 9, 10]), (13, [6])]
attribute [go_sem] kp111
theorem l18After_fc (edges : List (List Int)) (set : List Int) (a : Int) (hn : edges.length ≤ 1000) (hin : ∀ q ∈ set, 0 ≤ q ∧ q < edges.length) (ha : 0 ≤ a ∧ a < edges.length) (hEl : ∀ i < edges.length, (edges.getD i default).length ≤ 1000) (hs : SortP set) (hsl : set.length ≤ 1000) : FC S 111 [] [] [] [.sl .any (edges.map IntsD), .sl .any (set.map (.int .i64)), .int .i64 a] (.sl .any ((aftR edges set a).map (.int .i64))) [] [] := by
 have hp0 : ∀ q ∈ set, 0 ≤ q := fun q hq => (hin q hq).1
 refine fc_body Try.func111 rfl (by kernel_rfl) (by simp [Try.f111]) fun B => ?_
 simp only [Try.ntmps111, enumD, lst0, Nat.reduceAdd]
 repeat' first | ((refine sw_goB (id := 2) 0 kp111 1 55000 rfl fun K hK => ?_)) | ((refine ⟨_, _, _, rfl, rfl, rfl, ⟨⟨by simp only [Nat.reduceLT], by decide, by decide, by decide⟩, rfl, by simp [D.strip, strip1, D.cells, D.memOk, TyI.size]⟩, rfl, by simp only [Nat.reduceLT], ?_⟩; simp only [go_sem])) | refine sw_seq ?_ | refine sw_block ?_ | refine sw_inBlock ?_ | refine sw_skip ?_ | refine sw_go 0 kp111 fun K hK => ?_ | refine fun (K : KT) (hK : KOk S 0 _ _ _ K) => ?_ | ((first | refine runL_go ?_ | refine sw_ret (ret0 ?_) | refine sw_ret ?_); simp (disch := (refine Om.mk ?_; omega)) only [go_sem, Try.results111]) | (refine hK.nil ?_; clear hK K; simp only [go_sem]) | ((first | refine runG_fork rfl rfl rfl rfl rfl ?_ ?_ | refine sw_cond rfl ?_ ?_) <;> intro h <;> try simp (disch := (refine Om.mk ?_; omega)) only [go_sem] at h) | refine hK.skp rfl rfl ?_ | refine sw_exit rfl ?_ | refine sw_loopEnd ?_ | (refine hK.fork rfl rfl rfl ?_ ?_ <;> intro h <;> try simp (disch := (refine Om.mk ?_; omega)) only [go_sem] at h) | (with_reducible refine And.intro (by first | omega | (simp only [lens]; omega)) ?_) | ((with_reducible refine And.intro ?_ ?_); · first | (intro x hx; subst hx; rfl) | (intro x; refine And.intro ?_ ?_ <;> (intros; subst_vars; rfl))) | fail
 refine sw_toQue 8 rfl ?_
 simp only [go_sem]
 refine sw_loopT (ι := List Int × List Int) (fun p => [(0, .sl .any (edges.map IntsD)), (1, .sl .any (set.map (.int .i64))), (7, .sl .any (p.1.map (.int .i64))), (8, .sl (.que 55000 2) (p.2.map (.int .i64)))]) (fun _ => []) (fun _ => [55000]) (fun p => AftI edges set a p.1 p.2 ∧ mAft set p.1 p.2 ≤ 2001) (fun p => mAft set p.1 p.2) ([], [a]) (by (refine covers_mk0 rfl rfl ?_ ?_ ?_ ?_ <;> simp (disch := (refine Om.mk ?_; omega)) only [go_sem] <;> (try omega))) ⟨AftI.start, by show 2 * (set.length - 0) + 1 ≤ 2001; omega⟩ (fun p hp => ?_)
 obtain ⟨out, todo⟩ := p
 obtain ⟨hp, hM⟩ := hp
 dsimp only at hp hM
 simp only [go_sem]
 rcases todo with _ | ⟨p, todo⟩
 ·repeat' first | ((exfalso; omega)) | refine sw_seq ?_ | refine sw_block ?_ | refine sw_inBlock ?_ | refine sw_skip ?_ | refine sw_go 0 kp111 fun K hK => ?_ | refine fun (K : KT) (hK : KOk S 0 _ _ _ K) => ?_ | ((first | refine runL_go ?_ | refine sw_ret (ret0 ?_) | refine sw_ret ?_); simp (disch := (refine Om.mk ?_; omega)) only [go_sem, Try.results111]) | (refine hK.nil ?_; clear hK K; simp only [go_sem]) | ((first | refine runG_fork rfl rfl rfl rfl rfl ?_ ?_ | refine sw_cond rfl ?_ ?_) <;> intro h <;> try simp (disch := (refine Om.mk ?_; omega)) only [go_sem] at h) | refine hK.skp rfl rfl ?_ | refine sw_exit rfl ?_ | refine sw_loopEnd ?_ | (refine hK.fork rfl rfl rfl ?_ ?_ <;> intro h <;> try simp (disch := (refine Om.mk ?_; omega)) only [go_sem] at h) | (with_reducible refine And.intro (by first | omega | (simp only [lens]; omega)) ?_) | ((with_reducible refine And.intro ?_ ?_); · first | (intro x hx; subst hx; rfl) | (intro x; refine And.intro ?_ ?_ <;> (intros; subst_vars; rfl))) | fail
  all_goals first | exact hp.eq ha.1 hs hp0 | (rw [hp.eq ha.1 hs hp0]; done) | trace_state
 ·have hpr : 0 ≤ p ∧ p < edges.length := by
   rcases hp.tod p List.mem_cons_self with rfl | h
   ·exact ha
   ·exact hin p (hp.sub p h).1
  have hgl := hEl p.toNat (by omega)
  have hJ := hp.pop
  have hm0 : mAft set out todo + 1 ≤ mAft set out (p :: todo) := by unfold mAft; simp only [List.length_cons]; omega
  generalize hm1 : mAft set out (p :: todo) = m0 at *
  repeat' first | ((exfalso; omega)) | ((refine sw_goAt (id := 5) 0 kp111 1 rfl fun K hK => ?_)) | refine sw_seq ?_ | refine sw_block ?_ | refine sw_inBlock ?_ | refine sw_skip ?_ | refine sw_go 0 kp111 fun K hK => ?_ | refine fun (K : KT) (hK : KOk S 0 _ _ _ K) => ?_ | ((first | refine runL_go ?_ | refine sw_ret (ret0 ?_) | refine sw_ret ?_); simp (disch := (refine Om.mk ?_; omega)) only [go_sem, Try.results111]) | (refine hK.nil ?_; clear hK K; simp only [go_sem]) | ((first | refine runG_fork rfl rfl rfl rfl rfl ?_ ?_ | refine sw_cond rfl ?_ ?_) <;> intro h <;> try simp (disch := (refine Om.mk ?_; omega)) only [go_sem] at h) | refine hK.skp rfl rfl ?_ | refine sw_exit rfl ?_ | refine sw_loopEnd ?_ | (refine hK.fork rfl rfl rfl ?_ ?_ <;> intro h <;> try simp (disch := (refine Om.mk ?_; omega)) only [go_sem] at h) | (with_reducible refine And.intro (by first | omega | (simp only [lens]; omega)) ?_) | ((with_reducible refine And.intro ?_ ?_); · first | (intro x hx; subst hx; rfl) | (intro x; refine And.intro ?_ ?_ <;> (intros; subst_vars; rfl))) | fail
  refine LopsW.sliceQue (tk := .que 55000 2) (k := 55000) (xs := (p :: todo).map (.int .i64)) (m := 1) (kd := .i64) (by simp only [go_sem]) (.inr rfl) (by simp only [go_sem]) rfl rfl rfl ⟨by decide, by rw [List.length_map, List.length_cons]; omega⟩ (fun x hx => by obtain ⟨y, _, rfl⟩ := List.mem_map.1 hx; rfl) (by simp only [Nat.reduceLT]) (LopsW.nil ?_)
  simp only [go_sem]
  refine fun (K : List Oper → LS → Prop) (hK : KOk S 0 _ _ _ K) => ?_
  try simp only [go_sem]
  repeat' first | ((exfalso; omega)) | refine sw_seq ?_ | refine sw_block ?_ | refine sw_inBlock ?_ | refine sw_skip ?_ | refine sw_go 0 kp111 fun K hK => ?_ | refine fun (K : KT) (hK : KOk S 0 _ _ _ K) => ?_ | ((first | refine runL_go ?_ | refine sw_ret (ret0 ?_) | refine sw_ret ?_); simp (disch := (refine Om.mk ?_; omega)) only [go_sem, Try.results111]) | (refine hK.nil ?_; clear hK K; simp only [go_sem]) | ((first | refine runG_fork rfl rfl rfl rfl rfl ?_ ?_ | refine sw_cond rfl ?_ ?_) <;> intro h <;> try simp (disch := (refine Om.mk ?_; omega)) only [go_sem] at h) | refine hK.skp rfl rfl ?_ | refine sw_exit rfl ?_ | refine sw_loopEnd ?_ | (refine hK.fork rfl rfl rfl ?_ ?_ <;> intro h <;> try simp (disch := (refine Om.mk ?_; omega)) only [go_sem] at h) | (with_reducible refine And.intro (by first | omega | (simp only [lens]; omega)) ?_) | ((with_reducible refine And.intro ?_ ?_); · first | (intro x hx; subst hx; rfl) | (intro x; refine And.intro ?_ ?_ <;> (intros; subst_vars; rfl))) | fail
  refine sw_loopT (ι := Nat × List Int × List Int) (fun q => [(0, .sl .any (edges.map IntsD)), (1, .sl .any (set.map (.int .i64))), (7, .sl .any (q.2.1.map (.int .i64))), (8, .sl (.que 55000 2) (q.2.2.map (.int .i64))), (9, .int .i64 p), (10, .int .i64 q.1)]) (fun _ => []) (fun _ => [55000]) (fun q => q.1 ≤ (edges.getD p.toNat default).length ∧ AftJ edges set a p q.1 q.2.1 q.2.2 ∧ mAft set q.2.1 q.2.2 + 1 ≤ m0) (fun q => (edges.getD p.toNat default).length - q.1) (0, out, todo) (by (refine covers_mk0 rfl rfl ?_ ?_ ?_ ?_ <;> simp (disch := (refine Om.mk ?_; omega)) only [go_sem] <;> (try omega)); all_goals first | exact ⟨rfl, rfl⟩ | trace_state) ⟨by simp, hJ, hm0⟩ (fun q hq => ?_)
  obtain ⟨i, out', todo'⟩ := q
  obtain ⟨h1, h2, h3⟩ := hq
  dsimp only at h1 h2 h3
  simp only [go_sem]
  have hol := sort_sub h2.srt hs fun q hq => (h2.sub q hq).1
  have htl : todo'.length ≤ 2001 := by unfold mAft at h3; omega
  by_cases hig : i < (edges.getD p.toNat default).length
  ·have c1 := l1Has_fc .any set ((edges.getD p.toNat default).getD i default)
   have c2 := l1Has_fc .any out' ((edges.getD p.toNat default).getD i default)
   have c3 := l1Into_fc .any out' ((edges.getD p.toNat default).getD i default) (by omega)
   have hi2 : i < (edges.getD p.toNat default).length := hig
   by_cases k1 : (edges.getD p.toNat default).getD i default ∈ set
   ·by_cases k2 : (edges.getD p.toNat default).getD i default ∈ out'
    ·have hS := h2.skip hi2 (fun _ => k2)
     repeat' first | ((exfalso; omega)) | ((exact absurd k1 (by assumption))) | ((exact absurd k2 (by assumption))) | refine sw_seq ?_ | refine sw_block ?_ | refine sw_inBlock ?_ | refine sw_skip ?_ | refine sw_go 0 kp111 fun K hK => ?_ | refine fun (K : KT) (hK : KOk S 0 _ _ _ K) => ?_ | ((first | refine runL_go ?_ | refine sw_ret (ret0 ?_) | refine sw_ret ?_); simp (disch := (refine Om.mk ?_; omega)) only [go_sem, Try.results111]) | (refine hK.nil ?_; clear hK K; simp only [go_sem]) | ((first | refine runG_fork rfl rfl rfl rfl rfl ?_ ?_ | refine sw_cond rfl ?_ ?_) <;> intro h <;> try simp (disch := (refine Om.mk ?_; omega)) only [go_sem] at h) | refine hK.skp rfl rfl ?_ | refine sw_exit rfl ?_ | refine sw_loopEnd ?_ | refine hK.c0 rfl rfl rfl (c1) rfl rfl rfl ?_ | refine hK.c0 rfl rfl rfl (c2) rfl rfl rfl ?_ | (refine hK.fork rfl rfl rfl ?_ ?_ <;> intro h <;> try simp (disch := (refine Om.mk ?_; omega)) only [go_sem] at h) | (with_reducible refine And.intro (by first | omega | (simp only [lens]; omega)) ?_) | ((with_reducible refine And.intro ?_ ?_); · first | (intro x hx; subst hx; rfl) | (intro x; refine And.intro ?_ ?_ <;> (intros; subst_vars; rfl))) | fail
     all_goals exact ⟨(i + 1, out', todo'), (by (refine covers_mk0 rfl rfl ?_ ?_ ?_ ?_ <;> simp (disch := (refine Om.mk ?_; omega)) only [go_sem] <;> (try omega))), ⟨by dsimp only; omega, hS, h3⟩, by dsimp only; omega⟩
    ·have hS := h2.push ha.1 hp0 hi2 k1
     have hnl := intoL_new k2
     have hol2 := sort_sub hS.srt hs fun q hq => (hS.sub q hq).1
     have hm2 : mAft set (intoL out' ((edges.getD p.toNat default).getD i default)) (todo' ++ [(edges.getD p.toNat default).getD i default]) + 1 ≤ m0 := by
      unfold mAft at h3 ⊢
      rw [List.length_append, List.length_singleton]
      omega
     generalize hzo : intoL out' ((edges.getD p.toNat default).getD i default) = zo at *
     repeat' first | ((exfalso; omega)) | ((exact absurd k1 (by assumption))) | ((exact absurd (by assumption) k2)) | ((refine sw_goAt (id := 12) 0 kp111 3 rfl fun K hK => ?_)) | refine sw_seq ?_ | refine sw_block ?_ | refine sw_inBlock ?_ | refine sw_skip ?_ | refine sw_go 0 kp111 fun K hK => ?_ | refine fun (K : KT) (hK : KOk S 0 _ _ _ K) => ?_ | ((first | refine runL_go ?_ | refine sw_ret (ret0 ?_) | refine sw_ret ?_); simp (disch := (refine Om.mk ?_; omega)) only [go_sem, Try.results111]) | (refine hK.nil ?_; clear hK K; simp only [go_sem]) | ((first | refine runG_fork rfl rfl rfl rfl rfl ?_ ?_ | refine sw_cond rfl ?_ ?_) <;> intro h <;> try simp (disch := (refine Om.mk ?_; omega)) only [go_sem] at h) | refine hK.skp rfl rfl ?_ | refine sw_exit rfl ?_ | refine sw_loopEnd ?_ | refine hK.c0 rfl rfl rfl (c1) rfl rfl rfl ?_ | refine hK.c0 rfl rfl rfl (c2) rfl rfl rfl ?_ | refine hK.c0 rfl rfl rfl (c3) rfl rfl rfl ?_ | (refine hK.fork rfl rfl rfl ?_ ?_ <;> intro h <;> try simp (disch := (refine Om.mk ?_; omega)) only [go_sem] at h) | (with_reducible refine And.intro (by first | omega | (simp only [lens]; omega)) ?_) | ((with_reducible refine And.intro ?_ ?_); · first | (intro x hx; subst hx; rfl) | (intro x; refine And.intro ?_ ?_ <;> (intros; subst_vars; rfl))) | fail
     refine LopsW.appQue 55000 (k := 55000) (tk2 := .full) (xs := todo'.map (.int .i64)) (y := .int .i64 ((edges.getD p.toNat default).getD i default)) (by simp only [go_sem]) (by simp only [go_sem]) rfl rfl rfl (by simp) (by first | rfl | (simp only [go_sem]; done)) (fun x hx => by obtain ⟨y, _, rfl⟩ := List.mem_map.1 hx; rfl) rfl (by rw [List.length_map]; simp only [TyI.bytes]; omega) (by rw [List.length_map]; omega) (by simp only [Nat.reduceLT]) (LopsW.nil ?_)
     simp only [go_sem]
     refine fun (K : List Oper → LS → Prop) (hK : KOk S 0 _ _ _ K) => ?_
     try simp only [go_sem]
     repeat' first | ((exfalso; omega)) | refine sw_seq ?_ | refine sw_block ?_ | refine sw_inBlock ?_ | refine sw_skip ?_ | refine sw_go 0 kp111 fun K hK => ?_ | refine fun (K : KT) (hK : KOk S 0 _ _ _ K) => ?_ | ((first | refine runL_go ?_ | refine sw_ret (ret0 ?_) | refine sw_ret ?_); simp (disch := (refine Om.mk ?_; omega)) only [go_sem, Try.results111]) | (refine hK.nil ?_; clear hK K; simp only [go_sem]) | ((first | refine runG_fork rfl rfl rfl rfl rfl ?_ ?_ | refine sw_cond rfl ?_ ?_) <;> intro h <;> try simp (disch := (refine Om.mk ?_; omega)) only [go_sem] at h) | refine hK.skp rfl rfl ?_ | refine sw_exit rfl ?_ | refine sw_loopEnd ?_ | (refine hK.fork rfl rfl rfl ?_ ?_ <;> intro h <;> try simp (disch := (refine Om.mk ?_; omega)) only [go_sem] at h) | (with_reducible refine And.intro (by first | omega | (simp only [lens]; omega)) ?_) | ((with_reducible refine And.intro ?_ ?_); · first | (intro x hx; subst hx; rfl) | (intro x; refine And.intro ?_ ?_ <;> (intros; subst_vars; rfl))) | fail
     all_goals exact ⟨(i + 1, zo, todo' ++ [(edges.getD p.toNat default).getD i default]), (by (refine covers_mk0 rfl rfl ?_ ?_ ?_ ?_ <;> simp (disch := (refine Om.mk ?_; omega)) only [go_sem] <;> (try omega)); all_goals first | (simp; done) | trace_state), ⟨by dsimp only; omega, hS, hm2⟩, by dsimp only; omega⟩
   ·have hS := h2.skip hi2 (fun h => absurd h k1)
    repeat' first | ((exfalso; omega)) | ((exact absurd (by assumption) k1)) | refine sw_seq ?_ | refine sw_block ?_ | refine sw_inBlock ?_ | refine sw_skip ?_ | refine sw_go 0 kp111 fun K hK => ?_ | refine fun (K : KT) (hK : KOk S 0 _ _ _ K) => ?_ | ((first | refine runL_go ?_ | refine sw_ret (ret0 ?_) | refine sw_ret ?_); simp (disch := (refine Om.mk ?_; omega)) only [go_sem, Try.results111]) | (refine hK.nil ?_; clear hK K; simp only [go_sem]) | ((first | refine runG_fork rfl rfl rfl rfl rfl ?_ ?_ | refine sw_cond rfl ?_ ?_) <;> intro h <;> try simp (disch := (refine Om.mk ?_; omega)) only [go_sem] at h) | refine hK.skp rfl rfl ?_ | refine sw_exit rfl ?_ | refine sw_loopEnd ?_ | refine hK.c0 rfl rfl rfl (c1) rfl rfl rfl ?_ | refine hK.c0 rfl rfl rfl (c2) rfl rfl rfl ?_ | (refine hK.fork rfl rfl rfl ?_ ?_ <;> intro h <;> try simp (disch := (refine Om.mk ?_; omega)) only [go_sem] at h) | (with_reducible refine And.intro (by first | omega | (simp only [lens]; omega)) ?_) | ((with_reducible refine And.intro ?_ ?_); · first | (intro x hx; subst hx; rfl) | (intro x; refine And.intro ?_ ?_ <;> (intros; subst_vars; rfl))) | fail
    all_goals exact ⟨(i + 1, out', todo'), (by (refine covers_mk0 rfl rfl ?_ ?_ ?_ ?_ <;> simp (disch := (refine Om.mk ?_; omega)) only [go_sem] <;> (try omega))), ⟨by dsimp only; omega, hS, h3⟩, by dsimp only; omega⟩
  ·have hD := h2.done (by omega)
   repeat' first | ((exfalso; omega)) | refine sw_seq ?_ | refine sw_block ?_ | refine sw_inBlock ?_ | refine sw_skip ?_ | refine sw_go 0 kp111 fun K hK => ?_ | refine fun (K : KT) (hK : KOk S 0 _ _ _ K) => ?_ | ((first | refine runL_go ?_ | refine sw_ret (ret0 ?_) | refine sw_ret ?_); simp (disch := (refine Om.mk ?_; omega)) only [go_sem, Try.results111]) | (refine hK.nil ?_; clear hK K; simp only [go_sem]) | ((first | refine runG_fork rfl rfl rfl rfl rfl ?_ ?_ | refine sw_cond rfl ?_ ?_) <;> intro h <;> try simp (disch := (refine Om.mk ?_; omega)) only [go_sem] at h) | refine hK.skp rfl rfl ?_ | refine sw_exit rfl ?_ | refine sw_loopEnd ?_ | (refine hK.fork rfl rfl rfl ?_ ?_ <;> intro h <;> try simp (disch := (refine Om.mk ?_; omega)) only [go_sem] at h) | (with_reducible refine And.intro (by first | omega | (simp only [lens]; omega)) ?_) | ((with_reducible refine And.intro ?_ ?_); · first | (intro x hx; subst hx; rfl) | (intro x; refine And.intro ?_ ?_ <;> (intros; subst_vars; rfl))) | fail
   all_goals exact ⟨(out', todo'), (by (refine covers_mk0 rfl rfl ?_ ?_ ?_ ?_ <;> simp (disch := (refine Om.mk ?_; omega)) only [go_sem] <;> (try omega))), ⟨hD, by dsimp only; omega⟩, by dsimp only; omega⟩
end Go.Proofs.Ytlcdahaihlflaaa
end
section
namespace Go.Proofs.Ytlcdahaihlflaaa
open Go Go.Lg
set_option linter.unusedSimpArgs false
set_option linter.unusedVariables false
set_option maxHeartbeats 4000000
attribute [local irreducible] SW runL runQ runG runQG FC Ret1 aftR CM okC prS
def kp67 : List (Nat × List Nat) := [(0, [0, 1]), (1, [0, 1, 5]), (2, [0, 1, 5, 6]), (3, [0, 1, 5, 6, 16]), (5, [0, 1, 5, 6]), (4, [0, 1, 5, 6]), (6, [1, 5, 7]), (7, [1, 5, 7, 8]), (8, [1, 5, 7, 8, 9]), (9, [1, 5, 7, 8, 9, 34]), (11, [1, 5, 7, 8, 9, 54]), (12, [1, 5, 7, 8, 9, 10]), (13, [1, 5, 7, 8, 9, 10, 11]), (14, [1, 5, 7, 8, 9, 10, 11, 59]), (16, [1, 5, 7, 8, 9, 10, 11, 81]), (17, [1, 5, 7, 8, 9, 10, 11]), (18, [1, 5, 7, 8, 9, 10, 11]), (15, [1, 5, 7, 8, 9, 10, 11]), (19, [1, 5, 7, 8, 9]), (10, [1, 5, 7, 8, 9]), (20, [4])]
attribute [go_sem] kp67
theorem l18Parts_fc (edges : List (List Int)) (set : List Int) (hn : edges.length ≤ 1000) (hin : ∀ q ∈ set, 0 ≤ q ∧ q < edges.length) (hEl : ∀ i < edges.length, (edges.getD i default).length ≤ 1000) (hs : SortP set) (hsl : set.length ≤ 64) : FC S 67 [] [] [] [.sl .any (edges.map IntsD), .sl .any (set.map (.int .i64))] (.sl .any ((partsR edges set).map IntsD)) [] [] := by
 have hp0 : ∀ q ∈ set, 0 ≤ q := fun q hq => (hin q hq).1
 have hC : partsR edges set = cmp (CM edges set) set set.length := by unfold CM; rfl
 rw [hC]
 obtain ⟨A, hA⟩ : ∃ A, A = set.map (aftR edges set) := ⟨_, rfl⟩
 have hAl : A.length = set.length := by rw [hA, List.length_map]
 have hAg : ∀ i < set.length, A.getD i default = aftR edges set (set.getD i default) := fun i hi => by
  rw [hA, List.getD_eq_getElem?_getD, List.getElem?_map, List.getElem?_eq_getElem hi, List.getD_eq_getElem?_getD, List.getElem?_eq_getElem hi]; rfl
 refine fc_body Try.func67 rfl (by kernel_rfl) (by simp [Try.f67]) fun B => ?_
 simp only [Try.ntmps67, enumD, lst0, Nat.reduceAdd]
 repeat' first | refine sw_seq ?_ | refine sw_block ?_ | refine sw_inBlock ?_ | refine sw_skip ?_ | refine sw_go 0 kp67 fun K hK => ?_ | refine fun (K : KT) (hK : KOk S 0 _ _ _ K) => ?_ | refine sw_goD kp67 (by kernel_rfl) fun K hK => ?_ | ((first | refine runL_go ?_ | refine runQ_go ?_ | refine sw_ret (ret0 ?_) | refine sw_ret ?_); simp (disch := (refine Om.mk ?_; omega)) only [go_sem, Try.results67]) | (refine hK.nil ?_; clear hK K; simp only [go_sem]) | ((first | refine runG_fork rfl rfl rfl rfl rfl ?_ ?_ | refine runQG_fork rfl rfl rfl rfl rfl ?_ ?_ | refine sw_cond rfl ?_ ?_) <;> intro h <;> try simp (disch := (refine Om.mk ?_; omega)) only [go_sem] at h) | refine hK.skp rfl rfl ?_ | refine sw_exit rfl ?_ | refine sw_loopEnd ?_ | (refine hK.fork rfl rfl rfl ?_ ?_ <;> intro h <;> try simp (disch := (refine Om.mk ?_; omega)) only [go_sem] at h) | (with_reducible refine And.intro (by first | omega | (simp only [lens]; omega)) ?_) | ((with_reducible refine And.intro ?_ ?_); · first | (intro x hx; subst hx; rfl) | (intro x; refine And.intro ?_ ?_ <;> (intros; subst_vars; rfl))) | fail
 refine sw_tok 5 29000 22 1 rfl (.inr rfl) rfl ?_
 simp only [go_sem]
 refine sw_loopT (ι := Nat) (fun i => [(0, .sl .any (edges.map IntsD)), (1, .sl .any (set.map (.int .i64))), (6, .int .i64 i), (5, .sl (.own 29000 22 1) ((A.take i).map IntsD))]) (fun _ => []) (fun _ => [29000]) (fun i => i ≤ set.length) (fun i => set.length - i) 0 (by (refine covers_mk0 rfl rfl ?_ ?_ ?_ ?_ <;> simp (disch := (refine Om.mk ?_; omega)) only [go_sem] <;> (try omega)); all_goals exact ⟨rfl, rfl⟩) (by omega) (fun i hi => ?_)
 simp only [go_sem]
 have htl : (A.take i).length ≤ 64 := by rw [List.length_take]; omega
 by_cases hil : i < set.length
 ·have cA := l18After_fc edges set (set.getD i default) hn hin (hin _ (getD_mem set i hil)) hEl hs (by omega)
  rw [← hAg i hil] at cA
  repeat' first | ((exfalso; omega)) | refine sw_seq ?_ | refine sw_block ?_ | refine sw_inBlock ?_ | refine sw_skip ?_ | refine sw_go 0 kp67 fun K hK => ?_ | refine fun (K : KT) (hK : KOk S 0 _ _ _ K) => ?_ | refine sw_goD kp67 (by kernel_rfl) fun K hK => ?_ | ((first | refine runL_go ?_ | refine runQ_go ?_ | refine sw_ret (ret0 ?_) | refine sw_ret ?_); simp (disch := (refine Om.mk ?_; omega)) only [go_sem, Try.results67]) | (refine hK.nil ?_; clear hK K; simp only [go_sem]) | ((first | refine runG_fork rfl rfl rfl rfl rfl ?_ ?_ | refine runQG_fork rfl rfl rfl rfl rfl ?_ ?_ | refine sw_cond rfl ?_ ?_) <;> intro h <;> try simp (disch := (refine Om.mk ?_; omega)) only [go_sem] at h) | refine hK.skp rfl rfl ?_ | refine sw_exit rfl ?_ | refine sw_loopEnd ?_ | refine hK.c0 rfl rfl rfl (cA) rfl rfl rfl ?_ | (refine hK.fork rfl rfl rfl ?_ ?_ <;> intro h <;> try simp (disch := (refine Om.mk ?_; omega)) only [go_sem] at h) | (with_reducible refine And.intro (by first | omega | (simp only [lens]; omega)) ?_) | ((with_reducible refine And.intro ?_ ?_); · first | (intro x hx; subst hx; rfl) | (intro x; refine And.intro ?_ ?_ <;> (intros; subst_vars; rfl))) | fail
  all_goals exact ⟨i + 1, (by (refine covers_mk0 rfl rfl ?_ ?_ ?_ ?_ <;> simp (disch := (refine Om.mk ?_; omega)) only [go_sem] <;> (try omega)); all_goals first | (refine ⟨by omega, ?_⟩; rw [List.take_add_one, List.getElem?_eq_getElem (by omega), List.map_append, List.getD_eq_getElem?_getD, List.getElem?_eq_getElem (by omega)]; rfl) | (refine ⟨?_, by omega⟩; rw [List.take_add_one, List.getElem?_eq_getElem (by omega), List.map_append, List.getD_eq_getElem?_getD, List.getElem?_eq_getElem (by omega)]; rfl) | trace_state), by omega, by omega⟩
 ·have e : A.take i = A := List.take_of_length_le (by omega)
  rw [e]
  repeat' first | ((exfalso; omega)) | ((refine sw_tok 7 100000 22 1 rfl (.inr rfl) rfl ?_; simp only [go_sem])) | ((refine sw_tok 8 96000 2 1 rfl (.inr rfl) rfl ?_; simp only [go_sem])) | refine sw_seq ?_ | refine sw_block ?_ | refine sw_inBlock ?_ | refine sw_skip ?_ | refine sw_go 0 kp67 fun K hK => ?_ | refine fun (K : KT) (hK : KOk S 0 _ _ _ K) => ?_ | refine sw_goD kp67 (by kernel_rfl) fun K hK => ?_ | ((first | refine runL_go ?_ | refine runQ_go ?_ | refine sw_ret (ret0 ?_) | refine sw_ret ?_); simp (disch := (refine Om.mk ?_; omega)) only [go_sem, Try.results67]) | (refine hK.nil ?_; clear hK K; simp only [go_sem]) | ((first | refine runG_fork rfl rfl rfl rfl rfl ?_ ?_ | refine runQG_fork rfl rfl rfl rfl rfl ?_ ?_ | refine sw_cond rfl ?_ ?_) <;> intro h <;> try simp (disch := (refine Om.mk ?_; omega)) only [go_sem] at h) | refine hK.skp rfl rfl ?_ | refine sw_exit rfl ?_ | refine sw_loopEnd ?_ | (refine hK.fork rfl rfl rfl ?_ ?_ <;> intro h <;> try simp (disch := (refine Om.mk ?_; omega)) only [go_sem] at h) | (with_reducible refine And.intro (by first | omega | (simp only [lens]; omega)) ?_) | ((with_reducible refine And.intro ?_ ?_); · first | (intro x hx; subst hx; rfl) | (intro x; refine And.intro ?_ ?_ <;> (intros; subst_vars; rfl))) | fail
  refine sw_loopT (ι := Nat × List Int) (fun q => [(1, .sl .any (set.map (.int .i64))), (5, .sl (.own 29000 22 1) (A.map IntsD)), (7, .sl (.own 100000 22 1) ((cmp (CM edges set) set q.1).map IntsD)), (8, .sl (.own 96000 2 1) (q.2.map (.int .i64))), (9, .int .i64 q.1)]) (fun _ => []) (fun _ => [29000, 100000, 96000]) (fun q => q.1 ≤ set.length ∧ DoneI edges set q.1 q.2 ∧ q.2.length ≤ 64 * q.1) (fun q => set.length - q.1) (0, []) (by (refine covers_mk0 rfl rfl ?_ ?_ ?_ ?_ <;> simp (disch := (refine Om.mk ?_; omega)) only [go_sem] <;> (try omega)); all_goals first | exact ⟨rfl, rfl⟩ | exact ⟨rfl, rfl, rfl⟩ | trace_state) ⟨by simp, DoneI.start, by simp⟩ (fun q hq => ?_)
  obtain ⟨k, done⟩ := q
  obtain ⟨h1, h2, h3⟩ := hq
  dsimp only at h1 h2 h3
  simp only [go_sem]
  have hcl := cmp_len (CM edges set) set k
  by_cases hkl : k < set.length
  ·have hok := h2.ok hkl
   rw [← hAg k hkl] at hok
   have c1 := l1Has_fc .any (A.getD k default) (set.getD k default)
   have c2 := l1Has_fc (.own 96000 2 1) done (set.getD k default)
   by_cases ho : okC (CM edges set) set k
   ·obtain ⟨o1, o2⟩ := hok.1 ho
    repeat' first | ((exfalso; omega)) | ((exact absurd o1 (by assumption))) | ((exact absurd (by assumption) o2)) | ((refine sw_tok 10 89000 2 1 rfl (.inr rfl) rfl ?_; simp only [go_sem])) | refine sw_seq ?_ | refine sw_block ?_ | refine sw_inBlock ?_ | refine sw_skip ?_ | refine sw_go 0 kp67 fun K hK => ?_ | refine fun (K : KT) (hK : KOk S 0 _ _ _ K) => ?_ | refine sw_goD kp67 (by kernel_rfl) fun K hK => ?_ | ((first | refine runL_go ?_ | refine runQ_go ?_ | refine sw_ret (ret0 ?_) | refine sw_ret ?_); simp (disch := (refine Om.mk ?_; omega)) only [go_sem, Try.results67]) | (refine hK.nil ?_; clear hK K; simp only [go_sem]) | ((first | refine runG_fork rfl rfl rfl rfl rfl ?_ ?_ | refine runQG_fork rfl rfl rfl rfl rfl ?_ ?_ | refine sw_cond rfl ?_ ?_) <;> intro h <;> try simp (disch := (refine Om.mk ?_; omega)) only [go_sem] at h) | refine hK.skp rfl rfl ?_ | refine sw_exit rfl ?_ | refine sw_loopEnd ?_ | refine hK.c0 rfl rfl rfl (c1) rfl rfl rfl ?_ | refine hK.c0 rfl rfl rfl (c2) rfl rfl rfl ?_ | (refine hK.fork rfl rfl rfl ?_ ?_ <;> intro h <;> try simp (disch := (refine Om.mk ?_; omega)) only [go_sem] at h) | (with_reducible refine And.intro (by first | omega | (simp only [lens]; omega)) ?_) | ((with_reducible refine And.intro ?_ ?_); · first | (intro x hx; subst hx; rfl) | (intro x; refine And.intro ?_ ?_ <;> (intros; subst_vars; rfl))) | fail
    refine sw_loopT (ι := Nat) (fun j => [(1, .sl .any (set.map (.int .i64))), (5, .sl (.own 29000 22 1) (A.map IntsD)), (7, .sl (.own 100000 22 1) ((cmp (CM edges set) set k).map IntsD)), (8, .sl (.own 96000 2 1) ((done ++ prS edges set k j).map (.int .i64))), (9, .int .i64 k), (10, .sl (.own 89000 2 1) ((prS edges set k j).map (.int .i64))), (11, .int .i64 j)]) (fun _ => []) (fun _ => [29000, 100000, 96000, 89000]) (fun j => j ≤ set.length) (fun j => set.length - j) 0 (by (refine covers_mk0 rfl rfl ?_ ?_ ?_ ?_ <;> simp (disch := (refine Om.mk ?_; omega)) only [go_sem] <;> (try omega)); all_goals first | exact ⟨by rw [prS_zero, List.append_nil], by rw [prS_zero]; rfl, rfl⟩ | trace_state) (by omega) (fun j hj => ?_)
    simp only [go_sem]
    have hpl := prS_len (edges := edges) (set := set) k j
    have hdl : (done ++ prS edges set k j).length ≤ 64 * k + 64 := by rw [List.length_append]; omega
    by_cases hjl : j < set.length
    ·have hb : bothC (CM edges set) (set.getD k default).toNat (set.getD j default).toNat = true ↔ (set.getD j default ∈ A.getD k default ∧ set.getD k default ∈ A.getD j default) := by
      rw [both_iff, hAg k hkl, hAg j hjl, CM_aft (getD_mem set k hkl) (getD_mem set j hjl), CM_aft (getD_mem set j hjl) (getD_mem set k hkl)]
     have d1 := l1Has_fc .any (A.getD k default) (set.getD j default)
     have d2 := l1Has_fc .any (A.getD j default) (set.getD k default)
     by_cases hbb : bothC (CM edges set) (set.getD k default).toNat (set.getD j default).toNat = true
     ·obtain ⟨b1, b2⟩ := hb.1 hbb
      have e := prS_yes hjl hbb
      repeat' first | ((exfalso; omega)) | ((exact absurd b1 (by assumption))) | ((exact absurd b2 (by assumption))) | ((refine ⟨List.mem_filter.2 ⟨by simp, by simp⟩, fun x => ⟨fun y _ ee => ?_, fun y _ ee => ?_⟩, ?_, ?_, ?_⟩; (· subst ee; rfl); (· subst ee; rfl); (· omega); (· omega))) | refine sw_seq ?_ | refine sw_block ?_ | refine sw_inBlock ?_ | refine sw_skip ?_ | refine sw_go 0 kp67 fun K hK => ?_ | refine fun (K : KT) (hK : KOk S 0 _ _ _ K) => ?_ | refine sw_goD kp67 (by kernel_rfl) fun K hK => ?_ | ((first | refine runL_go ?_ | refine runQ_go ?_ | refine sw_ret (ret0 ?_) | refine sw_ret ?_); simp (disch := (refine Om.mk ?_; omega)) only [go_sem, Try.results67]) | (refine hK.nil ?_; clear hK K; simp only [go_sem]) | ((first | refine runG_fork rfl rfl rfl rfl rfl ?_ ?_ | refine runQG_fork rfl rfl rfl rfl rfl ?_ ?_ | refine sw_cond rfl ?_ ?_) <;> intro h <;> try simp (disch := (refine Om.mk ?_; omega)) only [go_sem] at h) | refine hK.skp rfl rfl ?_ | refine sw_exit rfl ?_ | refine sw_loopEnd ?_ | refine hK.c0 rfl rfl rfl (d1) rfl rfl rfl ?_ | refine hK.c0 rfl rfl rfl (d2) rfl rfl rfl ?_ | (refine hK.fork rfl rfl rfl ?_ ?_ <;> intro h <;> try simp (disch := (refine Om.mk ?_; omega)) only [go_sem] at h) | (with_reducible refine And.intro (by first | omega | (simp only [lens]; omega)) ?_) | ((with_reducible refine And.intro ?_ ?_); · first | (intro x hx; subst hx; rfl) | (intro x; refine And.intro ?_ ?_ <;> (intros; subst_vars; rfl))) | fail
      all_goals exact ⟨j + 1, (by rw [e, ← List.append_assoc]; (refine covers_mk0 rfl rfl ?_ ?_ ?_ ?_ <;> simp (disch := (refine Om.mk ?_; omega)) only [go_sem] <;> (try omega)); all_goals first | exact ⟨rfl, rfl, by omega⟩ | (simp; done) | trace_state), by omega, by omega⟩
     ·have e := prS_no hjl hbb
      repeat' first | ((exfalso; omega)) | ((exact absurd (hb.2 ⟨by assumption, by assumption⟩) hbb)) | refine sw_seq ?_ | refine sw_block ?_ | refine sw_inBlock ?_ | refine sw_skip ?_ | refine sw_go 0 kp67 fun K hK => ?_ | refine fun (K : KT) (hK : KOk S 0 _ _ _ K) => ?_ | refine sw_goD kp67 (by kernel_rfl) fun K hK => ?_ | ((first | refine runL_go ?_ | refine runQ_go ?_ | refine sw_ret (ret0 ?_) | refine sw_ret ?_); simp (disch := (refine Om.mk ?_; omega)) only [go_sem, Try.results67]) | (refine hK.nil ?_; clear hK K; simp only [go_sem]) | ((first | refine runG_fork rfl rfl rfl rfl rfl ?_ ?_ | refine runQG_fork rfl rfl rfl rfl rfl ?_ ?_ | refine sw_cond rfl ?_ ?_) <;> intro h <;> try simp (disch := (refine Om.mk ?_; omega)) only [go_sem] at h) | refine hK.skp rfl rfl ?_ | refine sw_exit rfl ?_ | refine sw_loopEnd ?_ | refine hK.c0 rfl rfl rfl (d1) rfl rfl rfl ?_ | refine hK.c0 rfl rfl rfl (d2) rfl rfl rfl ?_ | (refine hK.fork rfl rfl rfl ?_ ?_ <;> intro h <;> try simp (disch := (refine Om.mk ?_; omega)) only [go_sem] at h) | (with_reducible refine And.intro (by first | omega | (simp only [lens]; omega)) ?_) | ((with_reducible refine And.intro ?_ ?_); · first | (intro x hx; subst hx; rfl) | (intro x; refine And.intro ?_ ?_ <;> (intros; subst_vars; rfl))) | fail
      all_goals exact ⟨j + 1, (by rw [e]; (refine covers_mk0 rfl rfl ?_ ?_ ?_ ?_ <;> simp (disch := (refine Om.mk ?_; omega)) only [go_sem] <;> (try omega)); all_goals first | exact ⟨rfl, rfl, by omega⟩ | (simp; done) | trace_state), by omega, by omega⟩
    ·have hpe := prS_eq hkl ho (k := j) (by omega)
     have hcy := cmp_yes ho
     have hdy := h2.yes ho (k := j) (by omega)
     repeat' first | ((exfalso; omega)) | refine sw_seq ?_ | refine sw_block ?_ | refine sw_inBlock ?_ | refine sw_skip ?_ | refine sw_go 0 kp67 fun K hK => ?_ | refine fun (K : KT) (hK : KOk S 0 _ _ _ K) => ?_ | refine sw_goD kp67 (by kernel_rfl) fun K hK => ?_ | ((first | refine runL_go ?_ | refine runQ_go ?_ | refine sw_ret (ret0 ?_) | refine sw_ret ?_); simp (disch := (refine Om.mk ?_; omega)) only [go_sem, Try.results67]) | (refine hK.nil ?_; clear hK K; simp only [go_sem]) | ((first | refine runG_fork rfl rfl rfl rfl rfl ?_ ?_ | refine runQG_fork rfl rfl rfl rfl rfl ?_ ?_ | refine sw_cond rfl ?_ ?_) <;> intro h <;> try simp (disch := (refine Om.mk ?_; omega)) only [go_sem] at h) | refine hK.skp rfl rfl ?_ | refine sw_exit rfl ?_ | refine sw_loopEnd ?_ | (refine hK.fork rfl rfl rfl ?_ ?_ <;> intro h <;> try simp (disch := (refine Om.mk ?_; omega)) only [go_sem] at h) | (with_reducible refine And.intro (by first | omega | (simp only [lens]; omega)) ?_) | ((with_reducible refine And.intro ?_ ?_); · first | (intro x hx; subst hx; rfl) | (intro x; refine And.intro ?_ ?_ <;> (intros; subst_vars; rfl))) | fail
     all_goals exact ⟨(k + 1, done ++ prS edges set k j), (by rw [hcy, ← hpe]; (refine covers_mk0 rfl rfl ?_ ?_ ?_ ?_ <;> simp (disch := (refine Om.mk ?_; omega)) only [go_sem] <;> (try omega)); all_goals first | (refine ⟨?_, ?_⟩; (· rw [List.map_append]; rfl); (· omega)) | exact ⟨rfl, rfl, by omega⟩ | (simp; done) | trace_state), ⟨by dsimp only; omega, hdy, by dsimp only; omega⟩, by dsimp only; omega⟩
   ·have hcn := cmp_no ho
    have hdn := h2.no ho
    repeat' first | ((exfalso; omega)) | ((exact absurd (hok.2 ⟨by assumption, by assumption⟩) ho)) | refine sw_seq ?_ | refine sw_block ?_ | refine sw_inBlock ?_ | refine sw_skip ?_ | refine sw_go 0 kp67 fun K hK => ?_ | refine fun (K : KT) (hK : KOk S 0 _ _ _ K) => ?_ | refine sw_goD kp67 (by kernel_rfl) fun K hK => ?_ | ((first | refine runL_go ?_ | refine runQ_go ?_ | refine sw_ret (ret0 ?_) | refine sw_ret ?_); simp (disch := (refine Om.mk ?_; omega)) only [go_sem, Try.results67]) | (refine hK.nil ?_; clear hK K; simp only [go_sem]) | ((first | refine runG_fork rfl rfl rfl rfl rfl ?_ ?_ | refine runQG_fork rfl rfl rfl rfl rfl ?_ ?_ | refine sw_cond rfl ?_ ?_) <;> intro h <;> try simp (disch := (refine Om.mk ?_; omega)) only [go_sem] at h) | refine hK.skp rfl rfl ?_ | refine sw_exit rfl ?_ | refine sw_loopEnd ?_ | refine hK.c0 rfl rfl rfl (c1) rfl rfl rfl ?_ | refine hK.c0 rfl rfl rfl (c2) rfl rfl rfl ?_ | (refine hK.fork rfl rfl rfl ?_ ?_ <;> intro h <;> try simp (disch := (refine Om.mk ?_; omega)) only [go_sem] at h) | (with_reducible refine And.intro (by first | omega | (simp only [lens]; omega)) ?_) | ((with_reducible refine And.intro ?_ ?_); · first | (intro x hx; subst hx; rfl) | (intro x; refine And.intro ?_ ?_ <;> (intros; subst_vars; rfl))) | fail
    all_goals exact ⟨(k + 1, done), (by rw [hcn]; (refine covers_mk0 rfl rfl ?_ ?_ ?_ ?_ <;> simp (disch := (refine Om.mk ?_; omega)) only [go_sem] <;> (try omega))), ⟨by dsimp only; omega, hdn, by dsimp only; omega⟩, by dsimp only; omega⟩
  ·repeat' first | ((exfalso; omega)) | refine sw_seq ?_ | refine sw_block ?_ | refine sw_inBlock ?_ | refine sw_skip ?_ | refine sw_go 0 kp67 fun K hK => ?_ | refine fun (K : KT) (hK : KOk S 0 _ _ _ K) => ?_ | refine sw_goD kp67 (by kernel_rfl) fun K hK => ?_ | ((first | refine runL_go ?_ | refine runQ_go ?_ | refine sw_ret (ret0 ?_) | refine sw_ret ?_); simp (disch := (refine Om.mk ?_; omega)) only [go_sem, Try.results67]) | (refine hK.nil ?_; clear hK K; simp only [go_sem]) | ((first | refine runG_fork rfl rfl rfl rfl rfl ?_ ?_ | refine runQG_fork rfl rfl rfl rfl rfl ?_ ?_ | refine sw_cond rfl ?_ ?_) <;> intro h <;> try simp (disch := (refine Om.mk ?_; omega)) only [go_sem] at h) | refine hK.skp rfl rfl ?_ | refine sw_exit rfl ?_ | refine sw_loopEnd ?_ | (refine hK.fork rfl rfl rfl ?_ ?_ <;> intro h <;> try simp (disch := (refine Om.mk ?_; omega)) only [go_sem] at h) | (with_reducible refine And.intro (by first | omega | (simp only [lens]; omega)) ?_) | ((with_reducible refine And.intro ?_ ?_); · first | (intro x hx; subst hx; rfl) | (intro x; refine And.intro ?_ ?_ <;> (intros; subst_vars; rfl))) | fail
   all_goals rw [show set.length = k by omega]
end Go.Proofs.Ytlcdahaihlflaaa
end
