/-
  P18p, A01s, P24p, P29p, P24, P25, A03t, A02c, A03, A05p, A15p, A06, A06s, one behind the other.
-/
import Derived.Test.YtmogobaaophknaaP18a
import Derived.Test.YtmogobaaophknaaG1
import Derived.Test.YtmogobaaophknaaLgK18
import Derived.Test.YtmogobaaophknaaLgK10
import Derived.Test.YtmogobaaophknaaG0
import Derived.Test.YtmogobaaophknaaLgK6
import Derived.Test.YtmogobaaophknaaLgK4
import Derived.Test.YtmogobaaophknaaLgK7
import Derived.Test.YtmogobaaophknaaSet
section
namespace Go.Proofs.Ytmogobaaophknaa
open Go Go.Lg
set_option linter.unusedVariables false
inductive TC (r : Nat → Nat → Bool) : Nat → Nat → Prop
 | one {p q : Nat} (h : r p q = true) : TC r p q
 | step {p m q : Nat} (h : r p m = true) (t : TC r m q) : TC r p q
theorem TC.trans {r : Nat → Nat → Bool} {p m q : Nat} (h : TC r p m) (h' : TC r m q) : TC r p q := by
 induction h with
 | one h => exact .step h h'
 | step h _ ih => exact .step h (ih h')
theorem TC.snoc {r : Nat → Nat → Bool} {p m q : Nat} (h : TC r p m) (h' : r m q = true) : TC r p q := h.trans (.one h')
def leR (r r' : Nat → Nat → Bool) : Prop := ∀ a b, r a b = true → r' a b = true
theorem leR.refl (r : Nat → Nat → Bool) : leR r r := fun _ _ h => h
theorem leR.trans {r r' r'' : Nat → Nat → Bool} (h : leR r r') (h' : leR r' r'') : leR r r'' := fun a b x => h' a b (h a b x)
theorem wQ_mono (r : Nat → Nat → Bool) (m p : Nat) (ps : List Nat) (k : Nat) : leR (wQ r m p ps k) (wQ r m p ps (k + 1)) := fun a b h => by
 rw [wQ_succ]
 by_cases e : a = p
 ·rw [if_pos e]
  by_cases e2 : b = ps.getD k default
  ·show (if b = _ then _ else _) = true
   rw [if_pos e2]
   subst e; subst e2
   rw [h]; rfl
  ·show (if b = _ then _ else _) = true
   rw [if_neg e2]; exact h
 ·rw [if_neg e]; exact h
theorem wQ_le (r : Nat → Nat → Bool) (m p : Nat) (ps : List Nat) : ∀ k d, leR (wQ r m p ps k) (wQ r m p ps (k + d))
 | _, 0 => leR.refl _
 | k, d + 1 => (wQ_le r m p ps k d).trans (wQ_mono r m p ps (k + d))
theorem wQ_hit {r : Nat → Nat → Bool} {m p : Nat} {ps : List Nat} {k n : Nat} (hk : k < n) (h1 : r p m = true) (h2 : r m (ps.getD k default) = true) : wQ r m p ps n p (ps.getD k default) = true := by
 have a1 := wQ_le r m p ps 0 k p m h1
 have a2 := wQ_le r m p ps 0 k m (ps.getD k default) h2
 rw [Nat.zero_add] at a1 a2
 have : wQ r m p ps (k + 1) p (ps.getD k default) = true := by
  rw [wQ_succ, if_pos rfl]
  show (if ps.getD k default = ps.getD k default then _ else _) = true
  rw [if_pos rfl, a1, a2]
  cases wQ r m p ps k p (ps.getD k default) <;> rfl
 have h3 := wQ_le r m p ps (k + 1) (n - (k + 1)) _ _ this
 rwa [show k + 1 + (n - (k + 1)) = n by omega] at h3
theorem wP_le (r : Nat → Nat → Bool) (m : Nat) (ps : List Nat) : ∀ j d, leR (wP r m ps j) (wP r m ps (j + d))
 | _, 0 => leR.refl _
 | j, d + 1 => (wP_le r m ps j d).trans (by
   have := wQ_le (wP r m ps (j + d)) m (ps.getD (j + d) default) ps 0 ps.length
   rw [Nat.zero_add] at this
   exact this)
theorem wP_hit {r : Nat → Nat → Bool} {m : Nat} {ps : List Nat} {j n k : Nat} (hj : j < n) (hk : k < ps.length) (h1 : r (ps.getD j default) m = true) (h2 : r m (ps.getD k default) = true) : wP r m ps n (ps.getD j default) (ps.getD k default) = true := by
 have a1 := wP_le r m ps 0 j _ _ h1
 have a2 := wP_le r m ps 0 j _ _ h2
 rw [Nat.zero_add] at a1 a2
 have : wP r m ps (j + 1) (ps.getD j default) (ps.getD k default) = true := wQ_hit hk a1 a2
 have h3 := wP_le r m ps (j + 1) (n - (j + 1)) _ _ this
 rwa [show j + 1 + (n - (j + 1)) = n by omega] at h3
def Via (r : Nat → Nat → Bool) (ps : List Nat) : Nat → Nat → Nat → Prop
 | 0, p, q => r p q = true
 | i + 1, p, q => Via r ps i p q ∨ (Via r ps i p (ps.getD i default) ∧ Via r ps i (ps.getD i default) q)
theorem wM_via {r : Nat → Nat → Bool} {ps : List Nat} : ∀ i, i ≤ ps.length → ∀ a b, a < ps.length → b < ps.length → Via r ps i (ps.getD a default) (ps.getD b default) → wM ps r i (ps.getD a default) (ps.getD b default) = true
 | 0, _, a, b, _, _, h => h
 | i + 1, hi, a, b, ha, hb, h => by
  have le := wP_le (wM ps r i) (ps.getD i default) ps 0 ps.length
  rw [Nat.zero_add] at le
  rcases h with h | ⟨h1, h2⟩
  ·exact le _ _ (wM_via i (by omega) a b ha hb h)
  ·exact wP_hit ha hb (wM_via i (by omega) a i ha (by omega) h1) (wM_via i (by omega) i b (by omega) hb h2)
theorem via_trans {r : Nat → Nat → Bool} {ps : List Nat} : ∀ i, ∀ l < i, ∀ p q, Via r ps i p (ps.getD l default) → Via r ps i (ps.getD l default) q → Via r ps i p q
 | 0, l, hl, _, _, _, _ => by omega
 | i + 1, l, hl, p, q, h1, h2 => by
  have ih := @via_trans r ps i
  by_cases e : l = i
  ·subst e
   have a1 : Via r ps l p (ps.getD l default) := h1.elim id fun h => h.1
   have a2 : Via r ps l (ps.getD l default) q := h2.elim id fun h => h.2
   exact .inr ⟨a1, a2⟩
  ·have hl : l < i := by omega
   rcases h1 with h1 | ⟨h1, h1'⟩ <;> rcases h2 with h2 | ⟨h2, h2'⟩
   ·exact .inl (ih l hl _ _ h1 h2)
   ·exact .inr ⟨ih l hl _ _ h1 h2, h2'⟩
   ·exact .inr ⟨h1, ih l hl _ _ h1' h2⟩
   ·exact .inr ⟨h1, h2'⟩
theorem via_le {r : Nat → Nat → Bool} {ps : List Nat} : ∀ i p q, r p q = true → Via r ps i p q
 | 0, _, _, h => h
 | i + 1, p, q, h => .inl (via_le i p q h)
theorem tc_via {r : Nat → Nat → Bool} {ps : List Nat} (hr : ∀ p q, r p q = true → q ∈ ps) {p q : Nat} (h : TC r p q) : Via r ps ps.length p q := by
 induction h with
 | one h => exact via_le _ _ _ h
 | @step p m q h _ ih =>
  obtain ⟨l, hl, e⟩ := List.getElem_of_mem (hr _ _ h)
  have e2 : ps.getD l default = m := by rw [List.getD_eq_getElem?_getD, List.getElem?_eq_getElem hl]; exact e
  have h1 : Via r ps ps.length p (ps.getD l default) := by rw [e2]; exact via_le _ _ _ h
  have h2 : Via r ps ps.length (ps.getD l default) q := by rw [e2]; exact ih
  exact via_trans _ l hl _ _ h1 h2
def sndR (r r' : Nat → Nat → Bool) : Prop := ∀ a b, r' a b = true → TC r a b
theorem wQ_snd {r0 r : Nat → Nat → Bool} (h : sndR r0 r) (m p : Nat) (ps : List Nat) : ∀ k, sndR r0 (wQ r m p ps k)
 | 0 => h
 | k + 1 => fun a b hab => by
  have ih := wQ_snd h m p ps k
  rw [wQ_succ] at hab
  by_cases e : a = p
  ·rw [if_pos e] at hab
   have h2 : (if b = ps.getD k default then wQ r m p ps k p (ps.getD k default) || (wQ r m p ps k p m && wQ r m p ps k m (ps.getD k default)) else wQ r m p ps k a b) = true := hab
   clear hab
   by_cases e2 : b = ps.getD k default
   ·rw [if_pos e2] at h2
    rw [e, e2]
    rcases (Bool.or_eq_true _ _).mp h2 with h3 | h3
    ·exact ih _ _ h3
    ·obtain ⟨h4, h5⟩ := (Bool.and_eq_true _ _).mp h3
     exact (ih _ _ h4).trans (ih _ _ h5)
   ·rw [if_neg e2] at h2
    exact ih _ _ h2
  ·rw [if_neg e] at hab
   exact ih _ _ hab
theorem wP_snd {r0 r : Nat → Nat → Bool} (h : sndR r0 r) (m : Nat) (ps : List Nat) : ∀ j, sndR r0 (wP r m ps j)
 | 0 => h
 | j + 1 => wQ_snd (wP_snd h m ps j) m _ ps _
theorem wM_snd (r : Nat → Nat → Bool) (ps : List Nat) : ∀ i, sndR r (wM ps r i)
 | 0 => fun _ _ h => .one h
 | i + 1 => wP_snd (wM_snd r ps i) _ ps _
theorem wM_tc {r : Nat → Nat → Bool} {ps : List Nat} (hr : ∀ p q, r p q = true → q ∈ ps) {a b : Nat} (ha : a ∈ ps) (hb : b ∈ ps) : wM ps r ps.length a b = true ↔ TC r a b := by
 refine ⟨wM_snd r ps _ a b, fun h => ?_⟩
 obtain ⟨i, hi, rfl⟩ := List.getElem_of_mem ha
 obtain ⟨j, hj, rfl⟩ := List.getElem_of_mem hb
 have hv := tc_via hr h
 have e1 : ps.getD i default = ps[i] := by rw [List.getD_eq_getElem?_getD, List.getElem?_eq_getElem hi]; rfl
 have e2 : ps.getD j default = ps[j] := by rw [List.getD_eq_getElem?_getD, List.getElem?_eq_getElem hj]; rfl
 rw [← e1, ← e2] at hv ⊢
 exact wM_via _ (Nat.le_refl _) i j hi hj hv
theorem r0_mem {edges : List (List Int)} {set : List Int} {p q : Nat} (h : r0 edges set p q = true) : q ∈ natS set := by
 unfold r0 at h
 rw [tst_iff] at h
 exact List.mem_map.2 ⟨_, h.2, by simp⟩
end Go.Proofs.Ytmogobaaophknaa
end
section
namespace Go.Proofs.Ytmogobaaophknaa
open Go Go.Lg
def SortP (l : List Int) : Prop := l.Pairwise (· < ·)
def upTo (n : Nat) : List Int := (List.range n).map fun (i : Nat) => (i : Int)
theorem sort_upTo (n : Nat) : SortP (upTo n) := by
 unfold SortP upTo
 rw [List.pairwise_map]
 exact List.pairwise_lt_range.imp fun h => by omega
theorem mem_upTo (n : Nat) (x : Int) : x ∈ upTo n ↔ 0 ≤ x ∧ x < n := by
 unfold upTo
 rw [List.mem_map]
 constructor
 ·rintro ⟨i, hi, rfl⟩
  have := List.mem_range.1 hi
  omega
 ·intro h
  exact ⟨x.toNat, List.mem_range.2 (by omega), by omega⟩
theorem upTo_succ (n : Nat) : upTo (n + 1) = upTo n ++ [(n : Int)] := by simp [upTo, List.range_succ]
end Go.Proofs.Ytmogobaaophknaa
end
section
namespace Go.Proofs.Ytmogobaaophknaa
open Go Go.Lg
set_option linter.unusedVariables false
section
variable {edges : List (List Int)} {set : List Int} {a : Int}
end
noncomputable def CM (edges : List (List Int)) (set : List Int) : Nat → Nat → Bool := wM (natS set) (r0 edges set) set.length
section
variable {edges : List (List Int)} {set : List Int}
theorem natS_mem {q : Int} (h : q ∈ set) : q.toNat ∈ natS set := List.mem_map.2 ⟨q, h, rfl⟩
theorem CM_tc {p q : Int} (hp : p ∈ set) (hq : q ∈ set) : CM edges set p.toNat q.toNat = true ↔ TC (r0 edges set) p.toNat q.toNat := by
 unfold CM
 rw [← natS_len]
 exact wM_tc (fun _ _ h => r0_mem h) (natS_mem hp) (natS_mem hq)
theorem both_iff {C : Nat → Nat → Bool} {p q : Nat} : bothC C p q = true ↔ C p q = true ∧ C q p = true := by unfold bothC; simp
end
end Go.Proofs.Ytmogobaaophknaa
end
section
namespace Go.Proofs.Ytmogobaaophknaa
open Go Go.Lg
set_option linter.unusedVariables false
theorem upTo_len (n : Nat) : (upTo n).length = n := by simp [upTo]
theorem upTo_get {n i : Nat} (h : i < n) : (upTo n).getD i default = (i : Int) := by
 rw [List.getD_eq_getElem?_getD]
 simp [upTo, List.getElem?_range h]
theorem upTo_mem {n i : Nat} (h : i < n) : (i : Int) ∈ upTo n := (mem_upTo n i).2 ⟨by omega, by omega⟩
section
variable {gr : List (List Int)} {n : Nat}
theorem CU_tc {a b : Nat} (ha : a < n) (hb : b < n) : CM gr (upTo n) a b = true ↔ TC (r0 gr (upTo n)) a b := by
 have := CM_tc (edges := gr) (upTo_mem ha) (upTo_mem hb)
 rwa [Int.toNat_natCast, Int.toNat_natCast] at this
theorem CU_both {a b : Nat} (ha : a < n) (hb : b < n) : bothC (CM gr (upTo n)) a b = true ↔ TC (r0 gr (upTo n)) a b ∧ TC (r0 gr (upTo n)) b a := by
 rw [both_iff, CU_tc ha hb, CU_tc hb ha]
theorem okU {l : Nat} (hl : l < n) : okC (CM gr (upTo n)) (upTo n) l ↔ TC (r0 gr (upTo n)) l l ∧ ∀ m < l, ¬ (TC (r0 gr (upTo n)) l m ∧ TC (r0 gr (upTo n)) m l) := by
 unfold okC
 rw [upTo_get hl, Int.toNat_natCast, CU_tc hl hl]
 constructor
 ·rintro ⟨h1, h2⟩
  refine ⟨h1, fun m hm hc => ?_⟩
  have := h2 m hm
  rw [upTo_get (by omega), Int.toNat_natCast, (CU_both hl (by omega)).2 hc] at this
  cases this
 ·rintro ⟨h1, h2⟩
  refine ⟨h1, fun m hm => ?_⟩
  rw [upTo_get (by omega), Int.toNat_natCast]
  cases hb : bothC (CM gr (upTo n)) l m with
  | false => rfl
  | true => exact absurd ((CU_both hl (by omega)).1 hb) (h2 m hm)
noncomputable def prtP (gr : List (List Int)) (n l : Nat) : List Int := prtJ (CM gr (upTo n)) l ((upTo n).drop l) (n - l)
noncomputable def lsP (gr : List (List Int)) (n : Nat) : List Nat := (List.range n).filter fun l => tst (okC (CM gr (upTo n)) (upTo n) l)
theorem prtP_eq (l : Nat) : prtP gr n l = ((upTo n).drop l).filter fun q => bothC (CM gr (upTo n)) l q.toNat := by
 unfold prtP prtJ
 rw [List.take_of_length_le (by rw [List.length_drop, upTo_len]; omega)]
theorem drop_mem {l : Nat} {q : Int} : q ∈ (upTo n).drop l ↔ ∃ b : Nat, q = b ∧ l ≤ b ∧ b < n := by
 constructor
 ·intro h
  obtain ⟨j, hj, e⟩ := List.getElem_of_mem h
  rw [List.length_drop, upTo_len] at hj
  rw [List.getElem_drop] at e
  refine ⟨l + j, ?_, by omega, by omega⟩
  rw [← e]; simp [upTo]
 ·rintro ⟨b, rfl, h1, h2⟩
  have h3 : b - l < ((upTo n).drop l).length := by rw [List.length_drop, upTo_len]; omega
  have h4 : ((upTo n).drop l)[b - l] = (b : Int) := by
   rw [List.getElem_drop]; simp [upTo]; omega
  rw [← h4]; exact List.getElem_mem h3
theorem mem_prt {l : Nat} (hl : l < n) {q : Int} : q ∈ prtP gr n l ↔ ∃ b : Nat, q = b ∧ l ≤ b ∧ b < n ∧ TC (r0 gr (upTo n)) l b ∧ TC (r0 gr (upTo n)) b l := by
 rw [prtP_eq, List.mem_filter, drop_mem]
 constructor
 ·rintro ⟨⟨b, rfl, h1, h2⟩, h3⟩
  rw [Int.toNat_natCast] at h3
  exact ⟨b, rfl, h1, h2, (CU_both hl h2).1 h3⟩
 ·rintro ⟨b, rfl, h1, h2, h3⟩
  exact ⟨⟨b, rfl, h1, h2⟩, by rw [Int.toNat_natCast]; exact (CU_both hl h2).2 h3⟩
theorem cmp_eq : ∀ i ≤ n, cmp (CM gr (upTo n)) (upTo n) i = ((List.range i).filter fun l => tst (okC (CM gr (upTo n)) (upTo n) l)).map (prtP gr n)
 | 0, _ => rfl
 | i + 1, hi => by
  rw [List.range_succ, List.filter_append, List.map_append, ← cmp_eq i (by omega)]
  by_cases h : okC (CM gr (upTo n)) (upTo n) i
  ·rw [cmp_yes h]
   simp only [List.filter_cons, List.filter_nil, tst_true h, if_true, List.map_cons, List.map_nil]
   rw [upTo_get (by omega), Int.toNat_natCast, upTo_len]; rfl
  ·rw [cmp_no h]
   simp only [List.filter_cons, List.filter_nil, tst_false h, Bool.false_eq_true, if_false, List.map_nil, List.append_nil]
theorem parts_ls : partsR gr (upTo n) = (lsP gr n).map (prtP gr n) := by
 unfold lsP
 rw [← cmp_eq n (Nat.le_refl _)]
 show cmp (wM (natS (upTo n)) (r0 gr (upTo n)) (upTo n).length) (upTo n) (upTo n).length = _
 rw [upTo_len]
 unfold CM
 rw [upTo_len]
theorem ls_mem {l : Nat} : l ∈ lsP gr n ↔ l < n ∧ okC (CM gr (upTo n)) (upTo n) l := by
 unfold lsP
 rw [List.mem_filter, List.mem_range, tst_iff]
theorem ls_sort : (lsP gr n).Pairwise (· < ·) := List.pairwise_lt_range.filter _
theorem parts_get {i : Nat} (hi : i < (partsR gr (upTo n)).length) : ∃ l, l ∈ lsP gr n ∧ (lsP gr n)[i]? = some l ∧ (partsR gr (upTo n)).getD i default = prtP gr n l := by
 rw [parts_ls, List.length_map] at hi
 refine ⟨(lsP gr n)[i], List.getElem_mem hi, List.getElem?_eq_getElem hi, ?_⟩
 rw [parts_ls, List.getD_eq_getElem?_getD, List.getElem?_map, List.getElem?_eq_getElem hi]; rfl
theorem prt_head {l : Nat} (h : l ∈ lsP gr n) : ∃ r, prtP gr n l = (l : Int) :: r := by
 obtain ⟨hl, ho⟩ := ls_mem.1 h
 have hc := ((okU hl).1 ho).1
 have hd : (upTo n).drop l = (l : Int) :: (upTo n).drop (l + 1) := by
  rw [List.drop_eq_getElem_cons (by rw [upTo_len]; exact hl)]
  congr 1
  simp [upTo]
 rw [prtP_eq, hd]
 refine ⟨_, List.filter_cons_of_pos ?_⟩
 rw [Int.toNat_natCast]
 exact (CU_both hl hl).2 ⟨hc, hc⟩
theorem pl_head {i : Nat} (hi : i < (partsR gr (upTo n)).length) : 0 < ((partsR gr (upTo n)).getD i default).length ∧ (0 < i → ((partsR gr (upTo n)).getD (i - 1) default).getD 0 default < ((partsR gr (upTo n)).getD i default).getD 0 default) := by
 obtain ⟨l, h1, h2, h3⟩ := parts_get hi
 obtain ⟨r, hr⟩ := prt_head h1
 rw [h3, hr]
 refine ⟨by simp, fun h0 => ?_⟩
 obtain ⟨l', k1, k2, k3⟩ := parts_get (gr := gr) (n := n) (i := i - 1) (by omega)
 obtain ⟨r', hr'⟩ := prt_head k1
 rw [k3, hr']
 obtain ⟨a1, a2⟩ := List.getElem?_eq_some_iff.1 h2
 obtain ⟨b1, b2⟩ := List.getElem?_eq_some_iff.1 k2
 have := List.pairwise_iff_getElem.1 (ls_sort (gr := gr) (n := n)) (i - 1) i b1 a1 (by omega)
 rw [a2, b2] at this
 show (l' : Int) < (l : Int)
 omega
theorem prt_sort (l : Nat) : SortP (prtP gr n l) := by
 rw [prtP_eq]
 exact ((sort_upTo n).sublist (List.drop_sublist l _)).filter _
theorem pl_elem {i k : Nat} (hi : i < (partsR gr (upTo n)).length) (hk : k < ((partsR gr (upTo n)).getD i default).length) : (0 ≤ ((partsR gr (upTo n)).getD i default).getD k default ∧ ((partsR gr (upTo n)).getD i default).getD k default < n) ∧ (∀ j < i, ((partsR gr (upTo n)).getD i default).getD k default ∉ (partsR gr (upTo n)).getD j default) ∧ ((partsR gr (upTo n)).getD i default).getD k default ∉ ((partsR gr (upTo n)).getD i default).take k := by
 obtain ⟨l, h1, h2, h3⟩ := parts_get hi
 rw [h3] at hk ⊢
 obtain ⟨hl, ho⟩ := ls_mem.1 h1
 have hmem := getD_mem (prtP gr n l) k hk
 obtain ⟨b, hb, b1, b2, b3, b4⟩ := (mem_prt hl).1 hmem
 refine ⟨by omega, fun j hj hin => ?_, fun hin => ?_⟩
 ·obtain ⟨l', k1, k2, k3⟩ := parts_get (gr := gr) (n := n) (i := j) (by omega)
  obtain ⟨hl', ho'⟩ := ls_mem.1 k1
  rw [k3] at hin
  obtain ⟨c, hc, c1, c2, c3, c4⟩ := (mem_prt hl').1 hin
  obtain rfl : b = c := by omega
  obtain ⟨a1, a2⟩ := List.getElem?_eq_some_iff.1 h2
  obtain ⟨e1, e2⟩ := List.getElem?_eq_some_iff.1 k2
  have hlt := List.pairwise_iff_getElem.1 (ls_sort (gr := gr) (n := n)) j i e1 a1 hj
  rw [a2, e2] at hlt
  exact ((okU hl).1 ho).2 l' hlt ⟨b3.trans c4, c3.trans b4⟩
 ·obtain ⟨j, hj, e⟩ := List.getElem_of_mem hin
  rw [List.length_take] at hj
  rw [List.getElem_take] at e
  have := List.pairwise_iff_getElem.1 (prt_sort (gr := gr) (n := n) l) j k (by omega) hk (by omega)
  rw [e, List.getD_eq_getElem?_getD, List.getElem?_eq_getElem hk] at this
  exact absurd this (by simp)
theorem r0_iff {p q : Nat} : r0 gr (upTo n) p q = true ↔ (q : Int) ∈ gr.getD p default ∧ q < n := by
 unfold r0
 rw [tst_iff, mem_upTo]
 constructor
 ·rintro ⟨h1, h2⟩; exact ⟨h1, by omega⟩
 ·rintro ⟨h1, h2⟩; exact ⟨h1, by omega, by omega⟩
theorem TC.first {r : Nat → Nat → Bool} {p q : Nat} (h : TC r p q) : ∃ m, r p m = true ∧ (m = q ∨ TC r m q) := by
 cases h with
 | one h => exact ⟨_, h, .inl rfl⟩
 | step h t => exact ⟨_, h, .inr t⟩
theorem pl_some {i k : Nat} (hi : i < (partsR gr (upTo n)).length) (hk : k < ((partsR gr (upTo n)).getD i default).length) : ∃ y ∈ gr.getD (((partsR gr (upTo n)).getD i default).getD k default).toNat default, y ∈ (partsR gr (upTo n)).getD i default := by
 obtain ⟨l, h1, h2, h3⟩ := parts_get hi
 rw [h3] at hk ⊢
 obtain ⟨hl, ho⟩ := ls_mem.1 h1
 have hmem := getD_mem (prtP gr n l) k hk
 obtain ⟨b, hb, b1, b2, b3, b4⟩ := (mem_prt hl).1 hmem
 rw [hb, Int.toNat_natCast]
 obtain ⟨m, hm, hm2⟩ := (b4.trans b3).first
 obtain ⟨m1, m2⟩ := r0_iff.1 hm
 have hlm : TC (r0 gr (upTo n)) l m := b3.snoc hm
 have hml : TC (r0 gr (upTo n)) m l := by
  rcases hm2 with rfl | hm2
  ·exact b4
  ·exact hm2.trans b4
 refine ⟨(m : Int), m1, (mem_prt hl).2 ⟨m, rfl, ?_, m2, hlm, hml⟩⟩
 rcases Nat.lt_or_ge m l with h | h
 ·exact absurd ⟨hlm, hml⟩ (((okU hl).1 ho).2 m h)
 ·exact h
theorem pl_loop {i : Nat} (hi : i < n) (h : (i : Int) ∈ gr.getD i default) : ∃ j < (partsR gr (upTo n)).length, (i : Int) ∈ (partsR gr (upTo n)).getD j default := by
 have hc : TC (r0 gr (upTo n)) i i := .one (r0_iff.2 ⟨h, hi⟩)
 have key : ∀ m, m ≤ i → TC (r0 gr (upTo n)) i m → TC (r0 gr (upTo n)) m i → ∃ l ∈ lsP gr n, l ≤ m ∧ TC (r0 gr (upTo n)) l i ∧ TC (r0 gr (upTo n)) i l := by
  intro m
  induction m using Nat.strongRecOn with
  | ind m ih =>
   intro hm h1 h2
   by_cases hex : ∃ m' < m, TC (r0 gr (upTo n)) m m' ∧ TC (r0 gr (upTo n)) m' m
   ·obtain ⟨m', a1, a2, a3⟩ := hex
    obtain ⟨l, q1, q2, q3⟩ := ih m' a1 (by omega) (h1.trans a2) (a3.trans h2)
    exact ⟨l, q1, by omega, q3⟩
   ·exact ⟨m, ls_mem.2 ⟨by omega, (okU (by omega)).2 ⟨h2.trans h1, fun m' hm' hc' => hex ⟨m', hm', hc'⟩⟩⟩, Nat.le_refl _, h2, h1⟩
 obtain ⟨l, h1, h2, h3, h4⟩ := key i (Nat.le_refl _) hc hc
 obtain ⟨j, hj, e⟩ := List.getElem_of_mem h1
 refine ⟨j, by rw [parts_ls, List.length_map]; exact hj, ?_⟩
 rw [parts_ls, List.getD_eq_getElem?_getD, List.getElem?_map, List.getElem?_eq_getElem hj, e]
 exact (mem_prt (ls_mem.1 h1).1).2 ⟨i, rfl, h2, hi, h3, h4⟩
end
end Go.Proofs.Ytmogobaaophknaa
end
section
namespace Go.Proofs.Ytmogobaaophknaa
open Go Go.Lg
set_option linter.unusedSimpArgs false
set_option linter.unusedVariables false
set_option maxHeartbeats 4000000
attribute [local irreducible] SW runL runQ runG runQG FC Ret1 CM
end Go.Proofs.Ytmogobaaophknaa
end
section
namespace Go.Proofs.Ytmogobaaophknaa
open Go Go.Lg
set_option linter.unusedSimpArgs false
set_option linter.unusedVariables false
set_option maxHeartbeats 4000000
attribute [local irreducible] SW runL runQ runG runQG FC Ret1 CM okC
end Go.Proofs.Ytmogobaaophknaa
end
section
namespace Go.Proofs.Ytmogobaaophknaa
open Go Go.Lg
set_option linter.unusedSimpArgs false
inductive Fl (rs : List Int) : Nat → List Int → Prop
 | nil : Fl rs 0 []
 | cons {n : Int} {k : Nat} {l : List Int} (h : 0 ≤ arS rs n) (r : Fl rs (k + (arS rs n).toNat) l) : Fl rs (k + 1) (n :: l)
theorem Fl.zero {rs l : List Int} (h : Fl rs 0 l) : l = [] := by
 generalize e : (0 : Nat) = k at h
 cases h with
 | nil => rfl
 | cons _ _ => omega
theorem Fl.len {rs l : List Int} {k : Nat} (h : Fl rs k l) : k ≤ l.length := by
 induction h with
 | nil => exact Nat.le_refl _
 | cons _ _ ih => simp only [List.length_cons]; omega
theorem Fl.app {rs l : List Int} {j : Nat} (h : Fl rs j l) : ∀ {k : Nat} {m : List Int}, Fl rs k m → Fl rs (j + k) (l ++ m) := by
 induction h with
 | nil => intro k m hm; rw [Nat.zero_add]; exact hm
 | @cons n i l h r ih =>
  intro k m hm
  have := ih hm
  rw [show i + 1 + k = (i + k) + 1 by omega]
  exact .cons h (by rw [show i + k + (arS rs n).toNat = i + (arS rs n).toNat + k by omega]; exact this)
theorem Fl.split {rs : List Int} : ∀ (l : List Int) (j k : Nat), Fl rs (j + k) l → ∃ l1 l2, l = l1 ++ l2 ∧ Fl rs j l1 ∧ Fl rs k l2
 | [], j, k, h => by
  have := h.len
  simp only [List.length_nil] at this
  obtain rfl : j = 0 := by omega
  obtain rfl : k = 0 := by omega
  exact ⟨[], [], rfl, .nil, .nil⟩
 | n :: l, 0, k, h => ⟨[], n :: l, rfl, .nil, by rw [Nat.zero_add] at h; exact h⟩
 | n :: l, j + 1, k, h => by
  rw [show j + 1 + k = (j + k) + 1 by omega] at h
  cases h with
  | cons h r =>
   rw [show j + k + (arS rs n).toNat = (j + (arS rs n).toNat) + k by omega] at r
   obtain ⟨l1, l2, e, h1, h2⟩ := Fl.split l _ _ r
   exact ⟨n :: l1, l2, by rw [e]; rfl, .cons h h1, h2⟩
theorem Fl.scan {rs : List Int} {k : Nat} {l : List Int} (h : Fl rs k l) : ∀ (r : List Int) (i : Nat), 1 ≤ k → Go.Proofs.Ytmogobaaophknaa.scan rs (l ++ r) k i = i + l.length := by
 induction h with
 | nil => intro r i h0; omega
 | @cons n k l h hr ih =>
  intro r i _
  simp only [List.cons_append, Go.Proofs.Ytmogobaaophknaa.scan]
  rw [if_neg (by omega)]
  by_cases e : k + (arS rs n).toNat = 0
  ·rw [if_pos (by omega)]
   rw [e] at hr
   rw [hr.zero]
   simp
  ·rw [if_neg (by omega)]
   have := ih r (i + 1) (by omega)
   rw [show ((k + 1 : Nat) : Int) + arS rs n - 1 = ((k + (arS rs n).toNat : Nat) : Int) by omega, this]
   simp only [List.length_cons]; omega
theorem scan_fl {rs : List Int} : ∀ (l : List Int) (k i : Nat) (e : Int), 1 ≤ k → scan rs l k i = e → 0 ≤ e → ∃ l1 l2, l = l1 ++ l2 ∧ Fl rs k l1 ∧ e = i + l1.length
 | [], k, i, e, _, h, he => by simp only [scan] at h; omega
 | n :: l, k, i, e, hk, h, he => by
  simp only [scan] at h
  split at h
  ·omega
  ·rename_i h0
   obtain ⟨k, rfl⟩ : ∃ q, k = q + 1 := ⟨k - 1, by omega⟩
   split at h
   ·rename_i h1
    obtain ⟨rfl, h3⟩ : k = 0 ∧ arS rs n = 0 := by omega
    exact ⟨[n], l, rfl, .cons (by omega) (by rw [h3]; exact .nil), by simp; omega⟩
   ·rename_i h1
    obtain ⟨l1, l2, e1, e2, e3⟩ := scan_fl l (k + (arS rs n).toNat) (i + 1) e (by omega) (by rw [← h]; congr 1; omega) he
    exact ⟨n :: l1, l2, by rw [e1]; rfl, .cons (by omega) e2, by simp only [List.length_cons]; omega⟩
theorem Fl.uniq {rs : List Int} {k : Nat} {l : List Int} (h : Fl rs k l) : ∀ {m r s : List Int}, Fl rs k m → l ++ r = m ++ s → l = m ∧ r = s := by
 induction h with
 | nil => intro m r s hm e; rw [hm.zero] at e ⊢; exact ⟨rfl, e⟩
 | @cons n k l h hr ih =>
  intro m r s hm e
  cases hm with
  | @cons n' _ m h' hr' =>
   simp only [List.cons_append, List.cons.injEq] at e
   obtain ⟨rfl, e⟩ := e
   obtain ⟨rfl, rfl⟩ := ih hr' e
   exact ⟨rfl, rfl⟩
theorem termOk_fl {rs t : List Int} (h : TermOkP rs t) : Fl rs 1 t := by
 obtain ⟨_, _, h3⟩ := h
 unfold endS at h3
 rw [List.drop_zero] at h3
 obtain ⟨l1, l2, e1, e2, e3⟩ := scan_fl t 1 0 _ (by omega) h3 (by omega)
 have : l2 = [] := by
  have := congrArg List.length e1
  rw [List.length_append] at this
  exact List.length_eq_zero_iff.1 (by omega)
 rw [e1, this, List.append_nil]; exact e2
theorem fl_termOk {rs t : List Int} (hs : SigOkP rs) (h : Fl rs 1 t) (hl : t.length ≤ 60) : TermOkP rs t := by
 refine ⟨hs, ⟨h.len, hl⟩, ?_⟩
 have := h.scan [] 0 (by omega)
 unfold endS
 rw [List.drop_zero]
 simpa using this
theorem endS_app {rs : List Int} {p u r : List Int} (h : Fl rs 1 u) : endS rs (p ++ (u ++ r)) p.length = p.length + u.length := by
 unfold endS
 rw [List.drop_left]
 exact h.scan r p.length (by omega)
theorem Fl.at {rs : List Int} : ∀ (l : List Int) (k a : Nat), Fl rs k l → a < l.length → ∃ p u r, l = p ++ (u ++ r) ∧ p.length = a ∧ Fl rs 1 u
 | [], _, a, _, ha => absurd ha (Nat.not_lt_zero _)
 | n :: l, k, 0, h, _ => by
  obtain ⟨k, rfl⟩ : ∃ q, k = q + 1 := by cases h; exact ⟨_, rfl⟩
  obtain ⟨l1, l2, e, h1, _⟩ := Fl.split (n :: l) 1 k (by rw [Nat.add_comm]; exact h)
  exact ⟨[], l1, l2, e, rfl, h1⟩
 | n :: l, k, a + 1, h, ha => by
  cases h with
  | cons h r =>
   obtain ⟨p, u, s, e, hp, hu⟩ := Fl.at l _ a r (by simpa using ha)
   exact ⟨n :: p, u, s, by rw [e]; rfl, by simp [hp], hu⟩
theorem TermOkP.at {rs t : List Int} (h : TermOkP rs t) {a : Nat} (ha : a < t.length) : ∃ p u r, t = p ++ (u ++ r) ∧ p.length = a ∧ Fl rs 1 u := Fl.at t 1 a (termOk_fl h) ha
def subS (rs t : List Int) (a : Nat) : List Int := (t.take (endS rs t a).toNat).drop a
theorem subS_app {rs p u r : List Int} (h : Fl rs 1 u) : subS rs (p ++ (u ++ r)) p.length = u := by
 unfold subS
 rw [endS_app h, show ((p.length : Int) + u.length).toNat = p.length + u.length by omega, ← List.append_assoc, List.take_left' (by simp), List.drop_left]
theorem subS_ok {rs t : List Int} (h : TermOkP rs t) {a : Nat} (ha : a < t.length) : TermOkP rs (subS rs t a) := by
 obtain ⟨p, u, r, rfl, rfl, hu⟩ := h.at ha
 rw [subS_app hu]
 refine fl_termOk h.1 hu ?_
 have := h.2.1.2
 simp only [List.length_append] at this
 omega
theorem endS_ge {rs t : List Int} (h : TermOkP rs t) {a : Nat} (ha : a < t.length) : a < endS rs t a ∧ endS rs t a ≤ t.length := by
 obtain ⟨p, u, r, rfl, rfl, hu⟩ := h.at ha
 rw [endS_app hu]
 have := hu.len
 simp only [List.length_append]
 omega
def begS (rs t : List Int) : Nat → Nat → List Nat
 | 0, _ => []
 | k + 1, a => a :: begS rs t k (endS rs t a).toNat
def argsS (rs t : List Int) (a : Nat) : List Nat := begS rs t (arS rs (t.getD a default)).toNat (a + 1)
theorem begS_length (rs t : List Int) : ∀ k a, (begS rs t k a).length = k
 | 0, _ => rfl
 | k + 1, a => by simp [begS, begS_length rs t k]
theorem begS_fl {rs : List Int} : ∀ (k : Nat) (p l r : List Int), Fl rs k l → ∀ x ∈ begS rs (p ++ (l ++ r)) k p.length, p.length ≤ x ∧ x < (p ++ l).length
 | 0, _, _, _, _, x, hx => by cases hx
 | k + 1, p, l, r, h, x, hx => by
  obtain ⟨l1, l2, rfl, h1, h2⟩ := Fl.split l 1 k (by rw [Nat.add_comm]; exact h)
  have hl := h1.len
  simp only [begS, List.mem_cons] at hx
  rcases hx with rfl | hx
  ·simp only [List.length_append]; omega
  ·rw [List.append_assoc, endS_app h1, show ((p.length : Int) + l1.length).toNat = (p ++ l1).length by simp; omega, ← List.append_assoc p l1 (l2 ++ r)] at hx
   have := begS_fl k (p ++ l1) l2 r h2 x hx
   simp only [List.length_append] at this ⊢
   omega
def nthB (rs t : List Int) (a : Nat) : Nat → Nat
 | 0 => a
 | j + 1 => (endS rs t (nthB rs t a j)).toNat
theorem nthB_shift (rs t : List Int) (a : Nat) : ∀ j, nthB rs t a (j + 1) = nthB rs t (endS rs t a).toNat j
 | 0 => rfl
 | j + 1 => by
  show (endS rs t (nthB rs t a (j + 1))).toNat = _
  rw [nthB_shift rs t a j]
  rfl
theorem begS_snoc (rs t : List Int) : ∀ (k a : Nat), begS rs t (k + 1) a = begS rs t k a ++ [nthB rs t a k]
 | 0, a => rfl
 | k + 1, a => by
  show a :: begS rs t (k + 1) (endS rs t a).toNat = _
  rw [begS_snoc rs t k, nthB_shift]
  rfl
theorem begS_get (rs t : List Int) : ∀ (k a j : Nat), j < k → (begS rs t k a).getD j default = nthB rs t a j
 | 0, _, _, h => absurd h (Nat.not_lt_zero _)
 | k + 1, a, 0, _ => rfl
 | k + 1, a, j + 1, h => by
  rw [nthB_shift, ← begS_get rs t k _ j (by omega)]
  rfl
theorem Fl.cut {rs : List Int} (p r : List Int) : ∀ (j : Nat) (k : Nat) (l : List Int), Fl rs k l → j ≤ k → ∃ l1 l2, l = l1 ++ l2 ∧ Fl rs j l1 ∧ Fl rs (k - j) l2 ∧ nthB rs (p ++ (l ++ r)) p.length j = (p ++ l1).length
 | 0, k, l, h, _ => ⟨[], l, rfl, .nil, by simpa using h, by simp [nthB]⟩
 | j + 1, k, l, h, hj => by
  obtain ⟨l1, l2, rfl, h1, h2, h3⟩ := Fl.cut p r j k l h (by omega)
  obtain ⟨m1, m2, rfl, h4, h5⟩ := Fl.split l2 1 (k - (j + 1)) (by rw [show 1 + (k - (j + 1)) = k - j by omega]; exact h2)
  refine ⟨l1 ++ m1, m2, by simp, h1.app h4, h5, ?_⟩
  have e : p ++ (l1 ++ (m1 ++ m2) ++ r) = (p ++ l1) ++ (m1 ++ (m2 ++ r)) := by simp
  show (endS rs _ (nthB rs _ _ j)).toNat = _
  rw [h3, e, endS_app h4]
  simp only [List.length_append]; omega
theorem args_cut {rs t : List Int} (h : TermOkP rs t) {a : Nat} (ha : a < t.length) : ∃ p l r, t = p ++ (t.getD a default :: l ++ r) ∧ p.length = a ∧ 0 ≤ arS rs (t.getD a default) ∧ Fl rs (arS rs (t.getD a default)).toNat l := by
 obtain ⟨p, u, r, e, rfl, hu⟩ := h.at ha
 cases hu with
 | @cons n k l h0 hr =>
  have hn : t.getD p.length default = n := by rw [e]; simp [List.getD]
  rw [hn]
  exact ⟨p, l, r, by rw [e], rfl, h0, by rw [Nat.zero_add] at hr; exact hr⟩
theorem argsS_lt {rs t : List Int} (h : TermOkP rs t) {a : Nat} (ha : a < t.length) : ∀ x ∈ argsS rs t a, a < x ∧ x < t.length := by
 obtain ⟨p, l, r, e, rfl, h0, hl⟩ := args_cut h ha
 intro x hx
 unfold argsS at hx
 have e2 : t = (p ++ [t.getD p.length default]) ++ (l ++ r) := by simpa using e
 have hlen : (p ++ [t.getD p.length default]).length = p.length + 1 := by simp
 have := begS_fl _ (p ++ [t.getD p.length default]) l r hl x (by rw [← e2, hlen]; exact hx)
 have h3 := congrArg List.length e2
 simp only [List.length_append, List.length_cons, List.length_nil] at this h3
 omega
theorem nthB_lt {rs t : List Int} (h : TermOkP rs t) {a : Nat} (ha : a < t.length) {j : Nat} (hj : j < (arS rs (t.getD a default)).toNat) : a < nthB rs t (a + 1) j ∧ nthB rs t (a + 1) j < t.length := by
 rw [← begS_get rs t _ (a + 1) j hj]
 exact argsS_lt h ha _ (getD_mem _ _ (by unfold argsS; rw [begS_length]; exact hj))
theorem nthB_le {rs t : List Int} (h : TermOkP rs t) {a : Nat} (ha : a < t.length) : ∀ {j : Nat}, j ≤ (arS rs (t.getD a default)).toNat → a < nthB rs t (a + 1) j ∧ nthB rs t (a + 1) j ≤ t.length
 | 0, _ => by simp only [nthB]; omega
 | j + 1, hj => by
  obtain ⟨h1, h2⟩ := nthB_lt h ha (show j < _ by omega)
  have := endS_ge h h2
  simp only [nthB]
  omega
end Go.Proofs.Ytmogobaaophknaa
end
section
namespace Go.Proofs.Ytmogobaaophknaa
open Go Go.Lg
set_option linter.unusedSimpArgs false
set_option linter.unusedVariables false
set_option maxHeartbeats 4000000
attribute [local irreducible] SW runL runQ runG runQG FC LopsW
end Go.Proofs.Ytmogobaaophknaa
end
section
namespace Go.Proofs.Ytmogobaaophknaa
open Go Go.Lg
set_option linter.unusedSimpArgs false
set_option linter.unusedVariables false
set_option maxHeartbeats 4000000
attribute [local irreducible] SW runL runQ runG runQG FC Ret1
def natD (n : Nat) : D := .int .i64 n
attribute [go_sem] natD
theorem arS_low {rs : List Int} {x : Int} (h : 0 ≤ arS rs x) : -24 ≤ x ∧ x < rs.length := by
 unfold arS at h
 split at h
 ·have : 0 ≤ (rs.length : Int) := by omega
  omega
 ·split at h
  ·omega
  ·omega
theorem TermOkP.ar {rs t : List Int} (h : TermOkP rs t) : ∀ x ∈ t, 0 ≤ arS rs x := fun x hx => by
 have := h.2.2
 unfold endS at this
 rw [List.drop_zero] at this
 exact scan_all (rs := rs) t 1 0 (by omega) x hx
theorem TermOkP.low {rs t : List Int} (h : TermOkP rs t) {a : Nat} (ha : a < t.length) : (-24 ≤ t.getD a default ∧ t.getD a default < rs.length) ∧ 0 ≤ arS rs (t.getD a default) ∧ arS rs (t.getD a default) ≤ 3 :=
 ⟨arS_low (h.ar _ (getD_mem t a ha)), h.ar _ (getD_mem t a ha), (arS_rng h.1 _).2⟩
def kp48 : List (Nat × List Nat) := [(0, [1, 2, 3]), (1, [6])]
attribute [go_sem] kp48
theorem subAt_fc (tk tk' : Tk) (rs t : List Int) (a : Nat) (hT : TermOkP rs t) (ha : a < t.length) : FC S 48 [] [] [] [.agg [.sl tk (rs.map (.int .i64))], .sl tk' (t.map (.int .i64)), .int .i64 a] (.sl .any ((subS rs t a).map (.int .i64))) [] [] := by
 have he := endS_ge hT ha
 have hl := hT.2.1.2
 refine fc_body Try.func48 rfl (by kernel_rfl) (by simp [Try.f48]) fun B => ?_
 simp only [Try.ntmps48, enumD, lst0, Nat.reduceAdd]
 refine sw_bnd 1 rfl fun hb1 => ?_
 simp only [D.bnd, List.length_map] at hb1
 repeat' first | refine sw_seq ?_ | refine sw_skip ?_ | refine sw_go 0 kp48 fun K hK => ?_ | refine fun (K : KT) (hK : KOk S 0 _ _ _ K) => ?_ | ((first | refine runL_go ?_ | refine sw_ret (ret0 ?_) | refine sw_ret ?_); simp (disch := (refine Om.mk ?_; omega)) only [go_sem, Try.results48]) | (refine hK.nil ?_; clear hK K; simp only [go_sem]) | refine sw_loopEnd ?_ | refine hK.c0 rfl rfl rfl (endAt_fc _ _ rs t a hT.1 hT.ge hl (by omega)) rfl rfl rfl ?_ | (with_reducible refine And.intro (by first | omega | (simp only [lens]; omega)) ?_) | fail
 rfl
def kp63 : List (Nat × List Nat) := [(0, [1, 2, 3]), (1, [1, 2, 3, 7]), (2, [1, 2, 3, 7, 8]), (3, [1, 3, 7, 8, 9]), (4, [1, 3, 7, 8, 9, 19]), (6, [1, 3, 7, 8, 9]), (7, [1, 3, 7, 8, 9]), (5, [1, 3, 7, 8, 9]), (8, [6])]
attribute [go_sem] kp63
end Go.Proofs.Ytmogobaaophknaa
end
section
namespace Go.Proofs.Ytmogobaaophknaa
open Go Go.Lg
def SameHd (a b : List Int) : Prop := a.getD 0 default = b.getD 0 default ∧ 0 ≤ a.getD 0 default
instance (a b : List Int) : Decidable (SameHd a b) := inferInstanceAs (Decidable (_ ∧ _))
theorem sub_sub {rs t : List Int} (h : TermOkP rs t) {i : Nat} (hi : i < t.length) : (subS rs t i).getD 0 default = t.getD i default ∧ ∀ j < (arS rs (t.getD i default)).toNat, subS rs (subS rs t i) (nthB rs (subS rs t i) 1 j) = subS rs t (nthB rs t (i + 1) j) := by
 obtain ⟨p, l, r, e, rfl, h0, hl⟩ := args_cut h hi
 have hu : Fl rs 1 (t.getD p.length default :: l) := by
  have : Fl rs (0 + 1) (t.getD p.length default :: l) := .cons h0 (by rw [Nat.zero_add]; exact hl)
  rwa [Nat.zero_add] at this
 have es : subS rs t p.length = t.getD p.length default :: l := by
  conv => lhs; rw [e]
  exact subS_app hu
 rw [es]
 refine ⟨rfl, fun j hj => ?_⟩
 generalize hx : t.getD p.length default = x at *
 obtain ⟨l1, l2, rfl, c1, c2, c3⟩ := Fl.cut [x] [] j _ l hl (by omega)
 obtain ⟨d1, d2, d3, d4, d5, d6⟩ := Fl.cut (p ++ [x]) r j _ (l1 ++ l2) hl (by omega)
 obtain ⟨rfl, rfl⟩ := c1.uniq d4 d3
 obtain ⟨u, r2, rfl, u1, _⟩ := Fl.split l2 1 (_ - (j + 1)) (by rw [show 1 + ((arS rs x).toNat - (j + 1)) = (arS rs x).toNat - j by omega]; exact c2)
 simp only [List.append_nil, List.length_append, List.length_cons, List.length_nil] at c3 d6
 have e1 : x :: (l1 ++ (u ++ r2)) = ([x] ++ l1) ++ (u ++ r2) := by simp
 have e2 : t = (p ++ [x] ++ l1) ++ (u ++ (r2 ++ r)) := by rw [e]; simp
 have c3' : nthB rs (x :: (l1 ++ (u ++ r2))) 1 j = ([x] ++ l1).length := by
  have : [x] ++ (l1 ++ (u ++ r2)) = x :: (l1 ++ (u ++ r2)) := rfl
  rw [this] at c3
  simp at c3 ⊢; omega
 have d6' : nthB rs t (p.length + 1) j = (p ++ [x] ++ l1).length := by
  have : p ++ [x] ++ (l1 ++ (u ++ r2) ++ r) = t := by rw [e]; simp
  rw [this] at d6
  simp at d6 ⊢; omega
 rw [c3', d6']
 conv => lhs; rw [e1]
 conv => rhs; rw [e2]
 rw [subS_app u1, subS_app u1]
end Go.Proofs.Ytmogobaaophknaa
end
section
namespace Go.Proofs.Ytmogobaaophknaa
open Go Go.Lg
set_option linter.unusedSimpArgs false
set_option linter.unusedVariables false
end Go.Proofs.Ytmogobaaophknaa
end
section
namespace Go.Proofs.Ytmogobaaophknaa
open Go Go.Lg
set_option linter.unusedSimpArgs false
set_option maxHeartbeats 4000000
attribute [local irreducible] SW runL runQ runG runQG FC
def RuleOkP (rs l r : List Int) : Prop := (TermOkP rs l ∧ TermOkP rs r ∧ 0 ≤ l.getD 0 default) ∧ ∀ j < r.length, r.getD j default < 0 → r.getD j default ∈ l
def kp23 : List (Nat × List Nat) := [(0, [2, 3]), (1, [3, 24]), (2, [4]), (3, [3, 5]), (4, [3, 5, 29]), (6, [3, 5, 48]), (7, [4]), (5, [3, 5]), (8, [4])]
attribute [go_sem] kp23
theorem specRuleOk_fc (tk tk1 tk2 : Tk) (rs l r : List Int) : FC S 23 [] [] [] [.agg [.sl tk (rs.map (.int .i64))], .agg [.sl tk1 (l.map (.int .i64)), .sl tk2 (r.map (.int .i64))]] (.bool (tst (RuleOkP rs l r))) [] [] := by
 have hl1 : TermOkP rs l → 1 ≤ l.length := fun h => h.2.1.1
 unfold RuleOkP
 refine fc_body Try.func23 rfl (by kernel_rfl) (by simp [Try.f23]) fun B => ?_
 simp only [Try.ntmps23, enumD, lst0, Nat.reduceAdd]
 refine sw_bnd_agg 0 0 rfl rfl fun hb0_0 => ?_
 simp only [D.bnd, List.length_map] at hb0_0
 refine sw_bnd_agg 1 0 rfl rfl fun hb1_0 => ?_
 simp only [D.bnd, List.length_map] at hb1_0
 refine sw_bnd_agg 1 1 rfl rfl fun hb1_1 => ?_
 simp only [D.bnd, List.length_map] at hb1_1
 repeat' first | refine sw_seq ?_ | refine sw_block ?_ | refine sw_inBlock ?_ | refine sw_skip ?_ | refine sw_go 0 kp23 fun K hK => ?_ | refine fun (K : KT) (hK : KOk S 0 _ _ _ K) => ?_ | refine sw_goD kp23 (by kernel_rfl) fun K hK => ?_ | ((first | refine runL_go ?_ | refine runQ_go ?_ | refine sw_ret (ret0 ?_) | refine sw_ret ?_); simp (disch := (refine Om.mk ?_; omega)) only [go_sem, Try.results23]) | (refine hK.nil ?_; clear hK K; simp only [go_sem]) | ((first | refine runG_fork rfl rfl rfl rfl rfl ?_ ?_ | refine runQG_fork rfl rfl rfl rfl rfl ?_ ?_ | refine sw_cond rfl ?_ ?_) <;> intro h <;> try simp (disch := (refine Om.mk ?_; omega)) only [go_sem] at h) | refine hK.skp rfl rfl ?_ | refine sw_exit rfl ?_ | refine sw_loopEnd ?_ | refine hK.c0 rfl rfl rfl (specTermOk_fc _ _ _ _) rfl rfl rfl ?_ | (refine hK.fork rfl rfl rfl ?_ ?_ <;> intro h <;> try simp (disch := (refine Om.mk ?_; omega)) only [go_sem] at h) | (with_reducible refine And.intro (by first | omega | (simp only [lens]; omega)) ?_) | fail
 ·rintro ⟨⟨h1, _⟩, _⟩; contradiction
 ·rintro ⟨⟨_, h1, _⟩, _⟩; contradiction
 have hl2 := hl1 (by assumption)
 simp (disch := (refine Om.mk ?_; omega)) only [go_sem]
 repeat' first | refine sw_seq ?_ | refine sw_block ?_ | refine sw_inBlock ?_ | refine sw_skip ?_ | refine sw_go 0 kp23 fun K hK => ?_ | refine fun (K : KT) (hK : KOk S 0 _ _ _ K) => ?_ | refine sw_goD kp23 (by kernel_rfl) fun K hK => ?_ | ((first | refine runL_go ?_ | refine runQ_go ?_ | refine sw_ret (ret0 ?_) | refine sw_ret ?_); simp (disch := (refine Om.mk ?_; omega)) only [go_sem, Try.results23]) | (refine hK.nil ?_; clear hK K; simp only [go_sem]) | ((first | refine runG_fork rfl rfl rfl rfl rfl ?_ ?_ | refine runQG_fork rfl rfl rfl rfl rfl ?_ ?_ | refine sw_cond rfl ?_ ?_) <;> intro h <;> try simp (disch := (refine Om.mk ?_; omega)) only [go_sem] at h) | refine hK.skp rfl rfl ?_ | refine sw_exit rfl ?_ | refine sw_loopEnd ?_ | (refine hK.fork rfl rfl rfl ?_ ?_ <;> intro h <;> try simp (disch := (refine Om.mk ?_; omega)) only [go_sem] at h) | (with_reducible refine And.intro (by first | omega | (simp only [lens]; omega)) ?_) | fail
 ·rintro ⟨⟨_, _, h1⟩, _⟩; omega
 refine sw_loopU (ι := Nat) (fun i => [(5, .int .i64 i)]) (fun _ => []) (fun i => i ≤ r.length ∧ (∀ j < i, r.getD j default < 0 → r.getD j default ∈ l)) (fun i => r.length - i) 0 (by (refine covers_mk0 rfl rfl ?_ ?_ ?_ ?_ <;> simp (disch := (refine Om.mk ?_; omega)) only [go_sem] <;> (try omega))) ⟨by omega, ?_⟩ (fun i ⟨hi, hj⟩ => ?_)
 rotate_left
 simp only [go_sem]
 repeat' first | refine sw_seq ?_ | refine sw_block ?_ | refine sw_inBlock ?_ | refine sw_skip ?_ | refine sw_go 0 kp23 fun K hK => ?_ | refine fun (K : KT) (hK : KOk S 0 _ _ _ K) => ?_ | refine sw_goD kp23 (by kernel_rfl) fun K hK => ?_ | ((first | refine runL_go ?_ | refine runQ_go ?_ | refine sw_ret (ret0 ?_) | refine sw_ret ?_); simp (disch := (refine Om.mk ?_; omega)) only [go_sem, Try.results23]) | (refine hK.nil ?_; clear hK K; simp only [go_sem]) | ((first | refine runG_fork rfl rfl rfl rfl rfl ?_ ?_ | refine runQG_fork rfl rfl rfl rfl rfl ?_ ?_ | refine sw_cond rfl ?_ ?_) <;> intro h <;> try simp (disch := (refine Om.mk ?_; omega)) only [go_sem] at h) | refine hK.skp rfl rfl ?_ | refine sw_exit rfl ?_ | refine sw_loopEnd ?_ | refine hK.c0 rfl rfl rfl (l1Has_fc _ _ _) rfl rfl rfl ?_ | (refine hK.fork rfl rfl rfl ?_ ?_ <;> intro h <;> try simp (disch := (refine Om.mk ?_; omega)) only [go_sem] at h) | (with_reducible refine And.intro (by first | omega | (simp only [lens]; omega)) ?_) | fail
 ·rintro ⟨_, h2⟩; exact absurd (h2 i (by omega) (by assumption)) h
 ·exact ⟨i + 1, by (refine covers_mk0 rfl rfl ?_ ?_ ?_ ?_ <;> simp (disch := (refine Om.mk ?_; omega)) only [go_sem] <;> (try omega)), ⟨by omega, upto_succ hj fun _ => h⟩, by omega⟩
 ·exact ⟨i + 1, by (refine covers_mk0 rfl rfl ?_ ?_ ?_ ?_ <;> simp (disch := (refine Om.mk ?_; omega)) only [go_sem] <;> (try omega)), ⟨by omega, upto_succ hj fun h0 => by omega⟩, by omega⟩
 ·exact ⟨⟨by assumption, by assumption, by omega⟩, fun j hj' => hj j (by omega)⟩
 ·intro j hj'; omega
def kp39 : List (Nat × List Nat) := [(0, [2, 3]), (1, [3, 25]), (2, [4]), (3, [3, 27, 28, 29]), (4, [3, 27, 28, 29, 30]), (5, [3, 6, 27, 28, 29]), (6, [3, 27, 28, 29, 41]), (7, [4]), (8, [3, 27, 28, 29]), (9, [4])]
attribute [go_sem] kp39
theorem implRuleOk_fc (tk tk1 tk2 : Tk) (rs l r : List Int) : FC S 39 [] [] [] [.agg [.sl tk (rs.map (.int .i64))], .agg [.sl tk1 (l.map (.int .i64)), .sl tk2 (r.map (.int .i64))]] (.bool (tst (RuleOkP rs l r))) [] [] := by
 have hl1 : TermOkP rs l → 1 ≤ l.length := fun h => h.2.1.1
 unfold RuleOkP
 refine fc_body Try.func39 rfl (by kernel_rfl) (by simp [Try.f39]) fun B => ?_
 simp only [Try.ntmps39, enumD, lst0, Nat.reduceAdd]
 refine sw_bnd_agg 0 0 rfl rfl fun hb0_0 => ?_
 simp only [D.bnd, List.length_map] at hb0_0
 refine sw_bnd_agg 1 0 rfl rfl fun hb1_0 => ?_
 simp only [D.bnd, List.length_map] at hb1_0
 refine sw_bnd_agg 1 1 rfl rfl fun hb1_1 => ?_
 simp only [D.bnd, List.length_map] at hb1_1
 repeat' first | refine sw_seq ?_ | refine sw_block ?_ | refine sw_inBlock ?_ | refine sw_skip ?_ | refine sw_go 0 kp39 fun K hK => ?_ | refine fun (K : KT) (hK : KOk S 0 _ _ _ K) => ?_ | ((first | refine runL_go ?_ | refine sw_ret (ret0 ?_) | refine sw_ret ?_); simp (disch := (refine Om.mk ?_; omega)) only [go_sem, Try.results39]) | (refine hK.nil ?_; clear hK K; simp only [go_sem]) | ((first | refine runG_fork rfl rfl rfl rfl rfl ?_ ?_ | refine sw_cond rfl ?_ ?_) <;> intro h <;> try simp (disch := (refine Om.mk ?_; omega)) only [go_sem] at h) | refine hK.skp rfl rfl ?_ | refine sw_exit rfl ?_ | refine sw_loopEnd ?_ | refine hK.c0 rfl rfl rfl (implTermOk_fc _ _ _ _) rfl rfl rfl ?_ | (refine hK.fork rfl rfl rfl ?_ ?_ <;> intro h <;> try simp (disch := (refine Om.mk ?_; omega)) only [go_sem] at h) | (with_reducible refine And.intro (by first | omega | (simp only [lens]; omega)) ?_) | fail
 ·rintro ⟨⟨h1, _⟩, _⟩; contradiction
 ·rintro ⟨⟨_, h1, _⟩, _⟩; contradiction
 have hl2 := hl1 (by assumption)
 simp (disch := (refine Om.mk ?_; omega)) only [go_sem]
 repeat' first | refine sw_seq ?_ | refine sw_block ?_ | refine sw_inBlock ?_ | refine sw_skip ?_ | refine sw_go 0 kp39 fun K hK => ?_ | refine fun (K : KT) (hK : KOk S 0 _ _ _ K) => ?_ | ((first | refine runL_go ?_ | refine sw_ret (ret0 ?_) | refine sw_ret ?_); simp (disch := (refine Om.mk ?_; omega)) only [go_sem, Try.results39]) | (refine hK.nil ?_; clear hK K; simp only [go_sem]) | ((first | refine runG_fork rfl rfl rfl rfl rfl ?_ ?_ | refine sw_cond rfl ?_ ?_) <;> intro h <;> try simp (disch := (refine Om.mk ?_; omega)) only [go_sem] at h) | refine hK.skp rfl rfl ?_ | refine sw_exit rfl ?_ | refine sw_loopEnd ?_ | (refine hK.fork rfl rfl rfl ?_ ?_ <;> intro h <;> try simp (disch := (refine Om.mk ?_; omega)) only [go_sem] at h) | (with_reducible refine And.intro (by first | omega | (simp only [lens]; omega)) ?_) | fail
 ·rintro ⟨⟨_, _, h1⟩, _⟩; omega
 refine sw_loopU (ι := Nat) (fun i => [(29, .int .i64 i)]) (fun _ => []) (fun i => i ≤ r.length ∧ (∀ j < i, r.getD j default < 0 → r.getD j default ∈ l)) (fun i => r.length - i) 0 (by (refine covers_mk0 rfl rfl ?_ ?_ ?_ ?_ <;> simp (disch := (refine Om.mk ?_; omega)) only [go_sem] <;> (try omega))) ⟨by omega, ?_⟩ (fun i ⟨hi, hj⟩ => ?_)
 rotate_left
 simp only [go_sem]
 repeat' first | refine sw_seq ?_ | refine sw_block ?_ | refine sw_inBlock ?_ | refine sw_skip ?_ | refine sw_go 0 kp39 fun K hK => ?_ | refine fun (K : KT) (hK : KOk S 0 _ _ _ K) => ?_ | ((first | refine runL_go ?_ | refine sw_ret (ret0 ?_) | refine sw_ret ?_); simp (disch := (refine Om.mk ?_; omega)) only [go_sem, Try.results39]) | (refine hK.nil ?_; clear hK K; simp only [go_sem]) | ((first | refine runG_fork rfl rfl rfl rfl rfl ?_ ?_ | refine sw_cond rfl ?_ ?_) <;> intro h <;> try simp (disch := (refine Om.mk ?_; omega)) only [go_sem] at h) | refine hK.skp rfl rfl ?_ | refine sw_exit rfl ?_ | refine sw_loopEnd ?_ | refine hK.c0 rfl rfl rfl (contains_fc _ _ _) rfl rfl rfl ?_ | (refine hK.fork rfl rfl rfl ?_ ?_ <;> intro h <;> try simp (disch := (refine Om.mk ?_; omega)) only [go_sem] at h) | (with_reducible refine And.intro (by first | omega | (simp only [lens]; omega)) ?_) | fail
 ·rintro ⟨_, h2⟩; exact absurd (h2 i (by omega) (by assumption)) h
 ·exact ⟨i + 1, by (refine covers_mk0 rfl rfl ?_ ?_ ?_ ?_ <;> simp (disch := (refine Om.mk ?_; omega)) only [go_sem] <;> (try omega)), ⟨by omega, upto_succ hj fun _ => h⟩, by omega⟩
 ·exact ⟨i + 1, by (refine covers_mk0 rfl rfl ?_ ?_ ?_ ?_ <;> simp (disch := (refine Om.mk ?_; omega)) only [go_sem] <;> (try omega)), ⟨by omega, upto_succ hj fun h0 => by omega⟩, by omega⟩
 ·exact ⟨⟨by assumption, by assumption, by omega⟩, fun j hj' => hj j (by omega)⟩
 ·intro j hj'; omega
end Go.Proofs.Ytmogobaaophknaa
end
section
namespace Go.Proofs.Ytmogobaaophknaa
open Go Go.Lg
set_option linter.unusedSimpArgs false
set_option linter.unusedVariables false
set_option maxHeartbeats 4000000
attribute [local irreducible] SW runL runQ runG runQG FC
attribute [go_sem] upR_length mapR_length mapR_getDm
def RuleP (rs : List Int) (r : RuleT) : Prop := RuleOkP rs r.l r.r
def SystemOkP (x : SystemT) : Prop := (SigOkP x.sig ∧ x.rules.length ≤ 12) ∧ ∀ j < x.rules.length, RuleP x.sig (x.rules.getD j default)
theorem SystemOkP.len {x : SystemT} (h : SystemOkP x) (j : Nat) (hj : j < x.rules.length) : (1 ≤ (x.rules.getD j default).l.length ∧ (x.rules.getD j default).l.length ≤ 60) ∧ (1 ≤ (x.rules.getD j default).r.length ∧ (x.rules.getD j default).r.length ≤ 60) :=
 ⟨(h.2 j hj).1.1.2.1, (h.2 j hj).1.2.1.2.1⟩
def kp14 : List (Nat × List Nat) := [(0, [1]), (1, [1, 13]), (2, [2]), (3, [1, 3]), (4, [1, 3, 18]), (6, [1, 3, 29]), (7, [2]), (5, [1, 3]), (8, [2])]
attribute [go_sem] kp14
theorem specSystemOk_fc (x : SystemT) : FC S 14 [] [] [] [SystemD x] (.bool (tst (SystemOkP x))) [] [] := by
 refine fc_body Try.func14 rfl (by kernel_rfl) (by simp [Try.f14]) fun B => ?_
 simp only [Try.ntmps14, enumD, lst0, Nat.reduceAdd]
 refine sw_bnd_agg 0 1 rfl rfl fun hb0_1 => ?_
 simp only [D.bnd, List.length_map] at hb0_1
 repeat' first | refine sw_seq ?_ | refine sw_block ?_ | refine sw_inBlock ?_ | refine sw_skip ?_ | refine sw_go 0 kp14 fun K hK => ?_ | refine fun (K : KT) (hK : KOk S 0 _ _ _ K) => ?_ | refine sw_goD kp14 (by kernel_rfl) fun K hK => ?_ | ((first | refine runL_go ?_ | refine runQ_go ?_ | refine sw_ret (ret0 ?_) | refine sw_ret ?_); simp (disch := (refine Om.mk ?_; omega)) only [go_sem, Try.results14]) | (refine hK.nil ?_; clear hK K; simp only [go_sem]) | ((first | refine runG_fork rfl rfl rfl rfl rfl ?_ ?_ | refine runQG_fork rfl rfl rfl rfl rfl ?_ ?_ | refine sw_cond rfl ?_ ?_) <;> intro h <;> try simp (disch := (refine Om.mk ?_; omega)) only [go_sem] at h) | refine hK.skp rfl rfl ?_ | refine sw_exit rfl ?_ | refine sw_loopEnd ?_ | refine hK.c0 rfl rfl rfl (specSigOk_fc _ _) rfl rfl rfl ?_ | (refine hK.fork rfl rfl rfl ?_ ?_ <;> intro h <;> try simp (disch := (refine Om.mk ?_; omega)) only [go_sem] at h) | (with_reducible refine And.intro (by first | omega | (simp only [lens]; omega)) ?_) | fail
 ·rintro ⟨⟨h1, _⟩, _⟩; contradiction
 ·rintro ⟨⟨_, h1⟩, _⟩; omega
 refine sw_loopU (ι := Nat) (fun i => [(3, .int .i64 i)]) (fun _ => []) (fun i => i ≤ x.rules.length ∧ (∀ j < i, RuleP x.sig (x.rules.getD j default))) (fun i => x.rules.length - i) 0 (by (refine covers_mk0 rfl rfl ?_ ?_ ?_ ?_ <;> simp (disch := (refine Om.mk ?_; omega)) only [go_sem] <;> (try omega))) ⟨by omega, ?_⟩ (fun i ⟨hi, hj⟩ => ?_)
 rotate_left
 simp only [go_sem]
 repeat' first | refine sw_seq ?_ | refine sw_block ?_ | refine sw_inBlock ?_ | refine sw_skip ?_ | refine sw_go 0 kp14 fun K hK => ?_ | refine fun (K : KT) (hK : KOk S 0 _ _ _ K) => ?_ | refine sw_goD kp14 (by kernel_rfl) fun K hK => ?_ | ((first | refine runL_go ?_ | refine runQ_go ?_ | refine sw_ret (ret0 ?_) | refine sw_ret ?_); simp (disch := (refine Om.mk ?_; omega)) only [go_sem, Try.results14]) | (refine hK.nil ?_; clear hK K; simp only [go_sem]) | ((first | refine runG_fork rfl rfl rfl rfl rfl ?_ ?_ | refine runQG_fork rfl rfl rfl rfl rfl ?_ ?_ | refine sw_cond rfl ?_ ?_) <;> intro h <;> try simp (disch := (refine Om.mk ?_; omega)) only [go_sem] at h) | refine hK.skp rfl rfl ?_ | refine sw_exit rfl ?_ | refine sw_loopEnd ?_ | refine hK.c0 rfl rfl rfl (specRuleOk_fc _ _ _ x.sig (x.rules.getD i default).l (x.rules.getD i default).r) rfl rfl rfl ?_ | (refine hK.fork rfl rfl rfl ?_ ?_ <;> intro h <;> try simp (disch := (refine Om.mk ?_; omega)) only [go_sem] at h) | (with_reducible refine And.intro (by first | omega | (simp only [lens]; omega)) ?_) | fail
 ·rintro ⟨_, h2⟩; exact h (h2 i (by omega))
 ·exact ⟨i + 1, by (refine covers_mk0 rfl rfl ?_ ?_ ?_ ?_ <;> simp (disch := (refine Om.mk ?_; omega)) only [go_sem] <;> (try omega)), ⟨by omega, upto_succ hj h⟩, by omega⟩
 ·exact ⟨⟨by assumption, by omega⟩, fun j hj' => hj j (by omega)⟩
 ·intro j hj'; omega
def kp29 : List (Nat × List Nat) := [(0, [1]), (1, [1, 14]), (2, [2]), (3, [1, 16, 17, 18]), (4, [1, 16, 17, 18, 19]), (5, [1, 4, 16, 17, 18]), (6, [1, 16, 17, 18, 26]), (7, [2]), (8, [1, 16, 17, 18]), (9, [2])]
attribute [go_sem] kp29
theorem implSystemOk_fc (x : SystemT) : FC S 29 [] [] [] [SystemD x] (.bool (tst (SystemOkP x))) [] [] := by
 refine fc_body Try.func29 rfl (by kernel_rfl) (by simp [Try.f29]) fun B => ?_
 simp only [Try.ntmps29, enumD, lst0, Nat.reduceAdd]
 refine sw_bnd_agg 0 1 rfl rfl fun hb0_1 => ?_
 simp only [D.bnd, List.length_map] at hb0_1
 repeat' first | refine sw_seq ?_ | refine sw_block ?_ | refine sw_inBlock ?_ | refine sw_skip ?_ | refine sw_go 0 kp29 fun K hK => ?_ | refine fun (K : KT) (hK : KOk S 0 _ _ _ K) => ?_ | ((first | refine runL_go ?_ | refine sw_ret (ret0 ?_) | refine sw_ret ?_); simp (disch := (refine Om.mk ?_; omega)) only [go_sem, Try.results29]) | (refine hK.nil ?_; clear hK K; simp only [go_sem]) | ((first | refine runG_fork rfl rfl rfl rfl rfl ?_ ?_ | refine sw_cond rfl ?_ ?_) <;> intro h <;> try simp (disch := (refine Om.mk ?_; omega)) only [go_sem] at h) | refine hK.skp rfl rfl ?_ | refine sw_exit rfl ?_ | refine sw_loopEnd ?_ | refine hK.c0 rfl rfl rfl (implSigOk_fc _ _) rfl rfl rfl ?_ | (refine hK.fork rfl rfl rfl ?_ ?_ <;> intro h <;> try simp (disch := (refine Om.mk ?_; omega)) only [go_sem] at h) | (with_reducible refine And.intro (by first | omega | (simp only [lens]; omega)) ?_) | fail
 ·rintro ⟨⟨h1, _⟩, _⟩; contradiction
 ·rintro ⟨⟨_, h1⟩, _⟩; omega
 refine sw_loopU (ι := Nat) (fun i => [(18, .int .i64 i)]) (fun _ => []) (fun i => i ≤ x.rules.length ∧ (∀ j < i, RuleP x.sig (x.rules.getD j default))) (fun i => x.rules.length - i) 0 (by (refine covers_mk0 rfl rfl ?_ ?_ ?_ ?_ <;> simp (disch := (refine Om.mk ?_; omega)) only [go_sem] <;> (try omega))) ⟨by omega, ?_⟩ (fun i ⟨hi, hj⟩ => ?_)
 rotate_left
 simp only [go_sem]
 repeat' first | refine sw_seq ?_ | refine sw_block ?_ | refine sw_inBlock ?_ | refine sw_skip ?_ | refine sw_go 0 kp29 fun K hK => ?_ | refine fun (K : KT) (hK : KOk S 0 _ _ _ K) => ?_ | ((first | refine runL_go ?_ | refine sw_ret (ret0 ?_) | refine sw_ret ?_); simp (disch := (refine Om.mk ?_; omega)) only [go_sem, Try.results29]) | (refine hK.nil ?_; clear hK K; simp only [go_sem]) | ((first | refine runG_fork rfl rfl rfl rfl rfl ?_ ?_ | refine sw_cond rfl ?_ ?_) <;> intro h <;> try simp (disch := (refine Om.mk ?_; omega)) only [go_sem] at h) | refine hK.skp rfl rfl ?_ | refine sw_exit rfl ?_ | refine sw_loopEnd ?_ | refine hK.c0 rfl rfl rfl (implRuleOk_fc _ _ _ x.sig (x.rules.getD i default).l (x.rules.getD i default).r) rfl rfl rfl ?_ | (refine hK.fork rfl rfl rfl ?_ ?_ <;> intro h <;> try simp (disch := (refine Om.mk ?_; omega)) only [go_sem] at h) | (with_reducible refine And.intro (by first | omega | (simp only [lens]; omega)) ?_) | fail
 ·rintro ⟨_, h2⟩; exact h (h2 i (by omega))
 ·exact ⟨i + 1, by (refine covers_mk0 rfl rfl ?_ ?_ ?_ ?_ <;> simp (disch := (refine Om.mk ?_; omega)) only [go_sem] <;> (try omega)), ⟨by omega, upto_succ hj h⟩, by omega⟩
 ·exact ⟨⟨by assumption, by omega⟩, fun j hj' => hj j (by omega)⟩
 ·intro j hj'; omega
end Go.Proofs.Ytmogobaaophknaa
end
