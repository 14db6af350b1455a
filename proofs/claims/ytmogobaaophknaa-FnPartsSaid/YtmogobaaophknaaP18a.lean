/-
  Parts of a graph: the program's table of what reaches what.
-/
import Derived.Test.YtmogobaaophknaaG0
import Derived.Test.YtmogobaaophknaaG1
import Derived.Test.YtmogobaaophknaaLgK16
namespace Go.Proofs.Ytmogobaaophknaa
open Go Go.Lg
set_option linter.unusedSimpArgs false
set_option linter.unusedVariables false
set_option maxHeartbeats 4000000
attribute [local irreducible] SW runL runQ runG runQG FC Ret1 toF redoL
def bRow (n : Nat) (f : Nat → Bool) : List D := (List.range n).map fun q => .bool (f q)
theorem bRow_get {n : Nat} {f : Nat → Bool} {q : Nat} (h : Om (q < n)) : (List.drop q (bRow n f)).head? = some (.bool (f q)) := by
 rw [List.head?_drop, bRow, List.getElem?_map, List.getElem?_range h.1]; rfl
theorem bRow_set (n : Nat) (f : Nat → Bool) (q : Nat) (b : Bool) : (bRow n f).set q (.bool b) = bRow n (fun x => if x = q then b else f x) := by
 refine List.ext_getElem (by simp [bRow]) fun j h1 h2 => ?_
 simp only [bRow, List.getElem_set, List.getElem_map, List.getElem_range]
 by_cases e : q = j
 ·subst e; simp
 ·rw [if_neg e, if_neg (fun h => e h.symm)]
theorem bRow_len (n : Nat) (f : Nat → Bool) : (bRow n f).length = n := by simp [bRow]
theorem bRow_rep (n : Nat) : List.replicate n (D.bool false) = bRow n fun _ => false := by
 refine List.ext_getElem (by simp [bRow]) fun j h1 h2 => ?_
 simp [bRow]
def gCells (n : Nat) (ps : List Nat) : List D := (List.range n).map fun p => if p ∈ ps then .ms (p + 5000) n else .sl .nil []
theorem gCells_get {n : Nat} {ps : List Nat} {p : Nat} (h : Om (p < n ∧ 1 ≤ mk1 ps p)) : (List.drop p (gCells n ps)).head? = some (.ms (p + 5000) n) := by
 rw [List.head?_drop, gCells, List.getElem?_map, List.getElem?_range h.1.1]
 simp [mk1_iff.1 h.1.2]
theorem gCells_len (n : Nat) (ps : List Nat) : (gCells n ps).length = n := by simp [gCells]
theorem gCells_rep (n : Nat) : List.replicate n (D.sl .nil []) = gCells n [] := by
 refine List.ext_getElem (by simp [gCells]) fun j h1 h2 => ?_
 simp [gCells]
def natS (set : List Int) : List Nat := set.map Int.toNat
def rowsR (n : Nat) (ps : List Nat) (r : Nat → Nat → Bool) : List (Nat × List D) := rowsB 5000 ps fun x => bRow n (r x)
def nd1 (ps : List Nat) : Nat := if ps.Nodup then 1 else 0
theorem nd1_iff {ps : List Nat} : 1 ≤ nd1 ps ↔ ps.Nodup := by unfold nd1; split <;> simp_all
theorem look_rowsR {n : Nat} {ps : List Nat} {r : Nat → Nat → Bool} {p : Nat} (h : Om (1 ≤ mk1 ps p)) : Lg.look (rowsR n ps r) (p + 5000) = some (bRow n (r p)) := look_rowsM h
theorem setA_rowsR {n : Nat} {ps : List Nat} {r : Nat → Nat → Bool} {p : Nat} {f : Nat → Bool} (h : Om (1 ≤ mk1 ps p ∧ 1 ≤ nd1 ps)) : setA (rowsR n ps r) (p + 5000) (bRow n f) = rowsR n ps fun x => if x = p then f else r x := by
 unfold rowsR
 rw [setA_rows (nd1_iff.1 h.1.2) (mk1_iff.1 h.1.1)]
 congr 1
 funext x
 unfold updR
 by_cases e : x = p
 ·simp only [if_pos e]
 ·simp only [if_neg e]
theorem boxLe_of {bx : List (Nat × List D)} : ∀ {r : List (Nat × List D)}, (∀ p ∈ r, Lg.look bx p.1 = some p.2) → boxLe bx r
 | [], _ => trivial
 | (k, c) :: r, h => ⟨by rw [h (k, c) List.mem_cons_self]; exact rfl, boxLe_of fun p hp => h p (List.mem_cons_of_mem _ hp)⟩
theorem rowsR_self {n : Nat} {ps : List Nat} (hn : ps.Nodup) {r : Nat → Nat → Bool} (g : List D) : boxLe ((26, g) :: rowsR n ps r) ((26, g) :: rowsR n ps r) := boxLe_of fun q hq => by
 rcases List.mem_cons.1 hq with rfl | hq
 ·rfl
 ·unfold rowsR rowsB at hq
  obtain ⟨x, hx, rfl⟩ := List.mem_map.1 hq
  show Lg.look ((26, g) :: rowsR n ps r) (x + 5000) = _
  simp only [Lg.look]
  rw [if_neg (by omega)]
  exact look_rows hx
theorem rows_ids {n : Nat} {ps : List Nat} {r : Nat → Nat → Bool} {q : Nat × List D} (h : q ∈ rowsR n ps r) : 5000 ≤ q.1 ∧ ∃ x ∈ ps, q = (x + 5000, bRow n (r x)) := by
 unfold rowsR rowsB at h
 obtain ⟨x, hx, rfl⟩ := List.mem_map.1 h
 exact ⟨by simp, x, hx, rfl⟩
theorem bRow_ids (n : Nat) (f : Nat → Bool) : D.idsL (bRow n f) = [] := by
 unfold bRow
 induction (List.range n) with
 | nil => rfl
 | cons x l ih => simp only [List.map_cons, D.idsL, D.ids, ih, List.append_nil]
theorem gCells_ids {n : Nat} {ps : List Nat} {t : Nat} (h : t < 5000) : (D.idsL (gCells n ps)).contains t = false := by
 have : ∀ l : List Nat, t ∉ D.idsL (l.map fun p => if p ∈ ps then D.ms (p + 5000) n else .sl .nil []) := by
  intro l
  induction l with
  | nil => simp [D.idsL]
  | cons x l ih =>
   simp only [List.map_cons, D.idsL, List.mem_append, not_or]
   refine ⟨?_, ih⟩
   split
   ·simp only [D.ids, List.mem_singleton]; omega
   ·simp [D.ids]
 have := this (List.range n)
 simpa [gCells] using this
theorem keep_rows {n : Nat} {ps : List Nat} {r : Nat → Nat → Bool} {t : Nat} : keepA (noIdL t) (rowsR n ps r) = rowsR n ps r := by
 have : ∀ l : List (Nat × List D), (∀ q ∈ l, noIdL t q.2 = true) → keepA (noIdL t) l = l := by
  intro l
  induction l with
  | nil => intro _; rfl
  | cons q l ih =>
   intro h
   obtain ⟨k, c⟩ := q
   unfold keepA
   rw [if_pos (h (k, c) List.mem_cons_self), ih fun q hq => h q (List.mem_cons_of_mem _ hq)]
 refine this _ fun q hq => ?_
 obtain ⟨_, x, _, rfl⟩ := rows_ids hq
 simp [noIdL, bRow_ids]
theorem erase_rows {n : Nat} {ps : List Nat} {r : Nat → Nat → Bool} {t : Nat} (h : Om (t < 5000)) : eraseK t (rowsR n ps r) = rowsR n ps r := by
 have : ∀ l : List (Nat × List D), (∀ q ∈ l, q.1 ≠ t) → eraseK t l = l := by
  intro l
  induction l with
  | nil => intro _; rfl
  | cons q l ih =>
   intro h
   obtain ⟨k, c⟩ := q
   unfold eraseK
   rw [if_neg (h (k, c) List.mem_cons_self), ih fun q hq => h q (List.mem_cons_of_mem _ hq)]
 refine this _ fun q hq => ?_
 have := (rows_ids hq).1
 have := h.1
 omega
theorem set_rows {n : Nat} {ps : List Nat} {r : Nat → Nat → Bool} {t : Nat} {c : List D} (h : Om (t < 5000)) : setA (rowsR n ps r) t c = rowsR n ps r ++ [(t, c)] := by
 have : ∀ l : List (Nat × List D), (∀ q ∈ l, q.1 ≠ t) → setA l t c = l ++ [(t, c)] := by
  intro l
  induction l with
  | nil => intro _; rfl
  | cons q l ih =>
   intro h
   obtain ⟨k, c'⟩ := q
   unfold setA
   rw [if_neg (h (k, c') List.mem_cons_self), ih fun q hq => h q (List.mem_cons_of_mem _ hq)]
   rfl
 refine this _ fun q hq => ?_
 have := (rows_ids hq).1
 have := h.1
 omega
theorem gC_pu (n : Nat) (ps : List Nat) (p : Nat → Bool) : (gCells n ps).map (D.pu1 p) = gCells n ps := by
 unfold gCells
 rw [List.map_map]
 refine List.map_congr_left fun x _ => ?_
 simp only [Function.comp]
 split <;> rfl
theorem gC_tks (n : Nat) (ps : List Nat) : D.tksL (gCells n ps) = [] := by
 unfold gCells
 induction (List.range n) with
 | nil => rfl
 | cons x l ih =>
  simp only [List.map_cons, D.tksL, ih, List.append_nil]
  split <;> rfl
theorem bRow_pu (n : Nat) (f : Nat → Bool) (p : Nat → Bool) : (bRow n f).map (D.pu1 p) = bRow n f := by
 unfold bRow
 rw [List.map_map]
 exact List.map_congr_left fun x _ => rfl
theorem bRow_tks (n : Nat) (f : Nat → Bool) : D.tksL (bRow n f) = [] := by
 unfold bRow
 induction (List.range n) with
 | nil => rfl
 | cons x l ih => simp only [List.map_cons, D.tksL, D.tks, ih, List.append_nil]
theorem rows_pu (n : Nat) (ps : List Nat) (r : Nat → Nat → Bool) (p : Nat → Bool) : mapA (List.map (D.pu1 p)) (rowsR n ps r) = rowsR n ps r := by
 unfold rowsR rowsB
 induction ps with
 | nil => rfl
 | cons x l ih => simp only [List.map_cons, mapA, bRow_pu] at ih ⊢; rw [ih]
theorem rows_tks (n : Nat) (ps : List Nat) (r : Nat → Nat → Bool) (f : Nat → Bool) : ((rowsR n ps r).all fun q => (D.tksL q.2).all f) = true := by
 refine List.all_eq_true.2 fun q hq => ?_
 obtain ⟨_, x, _, rfl⟩ := rows_ids hq
 rw [bRow_tks]; rfl
theorem tks_mapR (g : Nat → List Int → List Nat) (xs : List (List Int)) : True := trivial
theorem rep_bRow (n : Nat) : (List.replicate n [D.bool false]).flatten = bRow n fun _ => false := by
 rw [← bRow_rep]; simp
theorem look_app {α : Type} (a b : List (Nat × α)) (t : Nat) : Lg.look (a ++ b) t = match Lg.look a t with | some d => some d | none => Lg.look b t := by
 induction a with
 | nil => rfl
 | cons q a ih =>
  obtain ⟨k, c⟩ := q
  simp only [List.cons_append, Lg.look]
  split
  ·rfl
  ·exact ih
theorem rows_none (n : Nat) (r : Nat → Nat → Bool) (q : Nat × List D) : q ∉ rowsR n (natS []) r := fun h => by
 obtain ⟨_, x, hx, _⟩ := rows_ids h
 cases hx
theorem ren_rows {n q : Nat} {ps : List Nat} {r : Nat → Nat → Bool} (hqn : q ∉ ps) : ∀ p ∈ (26, gCells n (ps ++ [q])) :: rowsR n (ps ++ [q]) (fun x => if x = q then fun _ => false else r x),
  (p.1 = q + 5000 ∧ ∃ cs, Lg.look ((26, (gCells n ps).set q (.ms 37 n)) :: (rowsR n ps r ++ [(37, bRow n fun _ => false)])) 37 = some cs ∧ p.2.length ≤ cs.length ∧ ∀ (j : Nat) d d', cs[j]? = some d → p.2[j]? = some d' → RenB 37 (q + 5000) d d') ∨ (p.1 ≠ q + 5000 ∧ p.1 ≠ 37 ∧ ∃ cs, Lg.look ((26, (gCells n ps).set q (.ms 37 n)) :: (rowsR n ps r ++ [(37, bRow n fun _ => false)])) p.1 = some cs ∧ p.2.length ≤ cs.length ∧ ∀ (j : Nat) d d', cs[j]? = some d → p.2[j]? = some d' → RenB 37 (q + 5000) d d') := by
 have hb : ∀ (f : Nat → Bool) (j : Nat) (d d' : D), (bRow n f)[j]? = some d → (bRow n f)[j]? = some d' → RenB 37 (q + 5000) d d' := fun f j d d' h1 h2 => by
  rw [h1] at h2
  obtain rfl := Option.some.inj h2
  refine RenB.keep ?_
  have := List.mem_of_getElem? h1
  unfold bRow at this
  obtain ⟨x, _, rfl⟩ := List.mem_map.1 this
  rfl
 have hnone : ∀ t, t < 5000 → Lg.look (rowsR n ps r) t = none := fun t ht => look_rows_none fun p _ => by omega
 intro p hp
 rcases List.mem_cons.1 hp with rfl | hp
 ·refine .inr ⟨?_, ?_, _, rfl, by rw [List.length_set, gCells_len, gCells_len]; exact Nat.le_refl _, fun j d d' h1 h2 => ?_⟩
  ·show 26 ≠ q + 5000; omega
  ·show (26 : Nat) ≠ 37; omega
  ·unfold gCells at h1 h2
   have hj : j < n := by have := (List.getElem?_eq_some_iff.1 h2).1; simpa using this
   rw [List.getElem?_map, List.getElem?_range hj] at h2
   obtain rfl := Option.some.inj h2
   rw [List.getElem?_set] at h1
   by_cases e : q = j
   ·subst e
    rw [if_pos rfl, if_pos (by simpa using hj)] at h1
    obtain rfl := Option.some.inj h1
    exact .inr (.inl ⟨n, rfl, by simp⟩)
   ·rw [if_neg e, List.getElem?_map, List.getElem?_range hj] at h1
    obtain rfl := Option.some.inj h1
    have e2 : (j ∈ ps ++ [q]) = (j ∈ ps) := by
     rw [List.mem_append, List.mem_singleton]
     exact propext ⟨fun h => h.resolve_right fun h => e h.symm, .inl⟩
    simp only [e2]
    split
    ·refine .inl ⟨?_, ?_, rfl⟩ <;> simp only [D.ids, List.mem_singleton] <;> omega
    ·exact RenB.keep rfl
 ·obtain ⟨h5, x, hx, rfl⟩ := rows_ids hp
  by_cases e : x = q
  ·subst e
   refine .inl ⟨rfl, bRow n fun _ => false, ?_, ?_, ?_⟩
   ·simp only [Lg.look]
    rw [if_neg (by omega), look_app, hnone 37 (by omega)]
    rfl
   ·simp only [if_true]; exact Nat.le_refl _
   ·simp only [if_true]; exact hb _
  ·have hx : x ∈ ps := by
    rw [List.mem_append, List.mem_singleton] at hx
    exact hx.resolve_right e
   refine .inr ⟨?_, ?_, bRow n (r x), ?_, ?_, ?_⟩
   ·show x + 5000 ≠ q + 5000; omega
   ·show x + 5000 ≠ 37; omega
   ·simp only [Lg.look]
    rw [if_neg (by omega), look_app]
    have : Lg.look (rowsR n ps r) (x + 5000) = some (bRow n (r x)) := look_rows hx
    rw [this]
   ·simp only [if_neg e]; exact Nat.le_refl _
   ·simp only [if_neg e]; exact hb _
attribute [local irreducible] bRow gCells rowsB rowsR
attribute [local go_sem] bRow_get bRow_set gCells_get look_rowsR setA_rowsR gCells_len bRow_len keep_rows erase_rows set_rows rep_bRow gC_pu rows_pu gC_tks rows_tks
theorem gC37 (n : Nat) (ps : List Nat) : (D.idsL (gCells n ps)).contains 37 = false := gCells_ids (by omega)
attribute [local go_sem] gC37
noncomputable def r0 (edges : List (List Int)) (set : List Int) (p q : Nat) : Bool := tst ((q : Int) ∈ edges.getD p default ∧ (q : Int) ∈ set)
noncomputable def rJ (edges : List (List Int)) (set : List Int) (p j q : Nat) : Bool := tst ((q : Int) ∈ (edges.getD p default).take j ∧ (q : Int) ∈ set)
theorem rJ_zero (edges : List (List Int)) (set : List Int) (p : Nat) : rJ edges set p 0 = fun _ => false := by
 funext q
 unfold rJ
 exact tst_false (fun h => by rw [List.take_zero] at h; cases h.1)
theorem take_snocP {xs : List Int} {j : Nat} (h : j < xs.length) : xs.take (j + 1) = xs.take j ++ [xs.getD j default] := by
 rw [List.take_add_one, List.getElem?_eq_getElem h]
 simp [List.getD_eq_getElem?_getD, h]
theorem rJ_succ {edges : List (List Int)} {set : List Int} {p j : Nat} (hj : j < (edges.getD p default).length) (h0 : 0 ≤ (edges.getD p default).getD j default) : (fun x => if x = ((edges.getD p default).getD j default).toNat then tst ((edges.getD p default).getD j default ∈ set) else rJ edges set p j x) = rJ edges set p (j + 1) := by
 funext x
 have ht := take_snocP hj
 unfold rJ
 rw [ht]
 by_cases e : x = ((edges.getD p default).getD j default).toNat
 ·rw [if_pos e]
  have e2 : (x : Int) = (edges.getD p default).getD j default := by omega
  rw [e2]
  exact tst_congr ⟨fun h => ⟨List.mem_append_right _ (List.mem_singleton.2 rfl), h⟩, fun h => h.2⟩
 ·rw [if_neg e]
  refine tst_congr ⟨fun h => ⟨List.mem_append_left _ h.1, h.2⟩, fun h => ⟨?_, h.2⟩⟩
  rcases List.mem_append.1 h.1 with h1 | h1
  ·exact h1
  ·rw [List.mem_singleton] at h1
   omega
theorem rJ_end (edges : List (List Int)) (set : List Int) (p : Nat) : rJ edges set p (edges.getD p default).length = r0 edges set p := by
 funext x
 unfold rJ r0
 rw [List.take_length]
theorem rows_eq {n : Nat} {ps : List Nat} (hn : ps.Nodup) (g : List D) {r r' : Nat → Nat → Bool} (h : ∀ x, r x = r' x) : boxLe ((26, g) :: rowsR n ps r) ((26, g) :: rowsR n ps r') := by
 have : r = r' := funext h
 subst this
 exact rowsR_self hn g
theorem natS_len (set : List Int) : (natS set).length = set.length := List.length_map _
theorem natS_get {set : List Int} {k : Nat} (h : k < set.length) : (natS set).getD k default = (set.getD k default).toNat := by
 simp [natS, List.getD_eq_getElem?_getD, h]
def wQ (r : Nat → Nat → Bool) (m p : Nat) (ps : List Nat) : Nat → Nat → Nat → Bool
 | 0 => r
 | k + 1 => fun x => if x = p then fun y => if y = ps.getD k default then wQ r m p ps k p (ps.getD k default) || (wQ r m p ps k p m && wQ r m p ps k m (ps.getD k default)) else wQ r m p ps k x y else wQ r m p ps k x
theorem wQ_succ (r : Nat → Nat → Bool) (m p : Nat) (ps : List Nat) (k : Nat) : ∀ x, wQ r m p ps (k + 1) x = if x = p then fun y => if y = ps.getD k default then wQ r m p ps k p (ps.getD k default) || (wQ r m p ps k p m && wQ r m p ps k m (ps.getD k default)) else wQ r m p ps k x y else wQ r m p ps k x := fun _ => rfl
def wP (r : Nat → Nat → Bool) (m : Nat) (ps : List Nat) : Nat → Nat → Nat → Bool
 | 0 => r
 | j + 1 => wQ (wP r m ps j) m (ps.getD j default) ps ps.length
def wM (ps : List Nat) (r : Nat → Nat → Bool) : Nat → Nat → Nat → Bool
 | 0 => r
 | i + 1 => wP (wM ps r i) (ps.getD i default) ps ps.length
def bothC (C : Nat → Nat → Bool) (p q : Nat) : Bool := C p q && C q p
def prtJ (C : Nat → Nat → Bool) (p : Nat) (qs : List Int) (j : Nat) : List Int := (qs.take j).filter fun q => bothC C p q.toNat
def okC (C : Nat → Nat → Bool) (set : List Int) (i : Nat) : Prop := C (set.getD i default).toNat (set.getD i default).toNat = true ∧ ∀ l < i, bothC C (set.getD i default).toNat (set.getD l default).toNat = false
open Classical in
noncomputable def cmp (C : Nat → Nat → Bool) (set : List Int) : Nat → List (List Int)
 | 0 => []
 | i + 1 => if okC C set i then cmp C set i ++ [prtJ C (set.getD i default).toNat (set.drop i) (set.length - i)] else cmp C set i
theorem cmp_yes {C : Nat → Nat → Bool} {set : List Int} {i : Nat} (h : okC C set i) : cmp C set (i + 1) = cmp C set i ++ [prtJ C (set.getD i default).toNat (set.drop i) (set.length - i)] := if_pos h
theorem cmp_no {C : Nat → Nat → Bool} {set : List Int} {i : Nat} (h : ¬ okC C set i) : cmp C set (i + 1) = cmp C set i := if_neg h
theorem cmp_len (C : Nat → Nat → Bool) (set : List Int) : ∀ i, (cmp C set i).length ≤ i
 | 0 => Nat.le_refl _
 | i + 1 => by
  have := cmp_len C set i
  rcases Classical.em (okC C set i) with h | h
  ·rw [cmp_yes h, List.length_append]; simp only [List.length_cons, List.length_nil]; omega
  ·rw [cmp_no h]; omega
noncomputable def partsR (edges : List (List Int)) (set : List Int) : List (List Int) := cmp (wM (natS set) (r0 edges set) set.length) set set.length
theorem prtJ_len (C : Nat → Nat → Bool) (p : Nat) (qs : List Int) (j : Nat) : (prtJ C p qs j).length ≤ j := by
 unfold prtJ
 exact Nat.le_trans (List.length_filter_le _ _) (by rw [List.length_take]; omega)
theorem prtJ_yes {C : Nat → Nat → Bool} {p : Nat} {qs : List Int} {j : Nat} (hj : j < qs.length) (h1 : C p (qs.getD j default).toNat = true) (h2 : C (qs.getD j default).toNat p = true) : prtJ C p qs (j + 1) = prtJ C p qs j ++ [qs.getD j default] := by
 unfold prtJ
 rw [take_snocP hj, List.filter_append, List.filter_cons_of_pos (by unfold bothC; rw [h1, h2]; rfl), List.filter_nil]
theorem prtJ_no {C : Nat → Nat → Bool} {p : Nat} {qs : List Int} {j : Nat} (hj : j < qs.length) (h : C p (qs.getD j default).toNat = false ∨ C (qs.getD j default).toNat p = false) : prtJ C p qs (j + 1) = prtJ C p qs j := by
 unfold prtJ
 rw [take_snocP hj, List.filter_append, List.filter_cons_of_neg (by unfold bothC; rcases h with h | h <;> rw [h] <;> simp), List.filter_nil, List.append_nil]
theorem mapR_memP {α : Type} [Inhabited α] {g : Nat → α → D} {xs : List α} {P : D → Prop} (h : ∀ j x, P (g j x)) : ∀ d ∈ mapR g xs, P d := fun d hd => by
 obtain ⟨j, _, rfl⟩ := List.mem_map.1 hd
 exact h j _
theorem mapR_snocP {α : Type} [Inhabited α] (g : Nat → α → D) (xs : List α) (x : α) : mapR g (xs ++ [x]) = mapR g xs ++ [g xs.length x] := by
 unfold mapR
 rw [List.length_append, List.length_singleton, List.range_succ, List.map_append]
 congr 1
 ·refine List.map_congr_left fun j hj => ?_
  have hj := List.mem_range.1 hj
  simp [List.getD, List.getElem?_append_left hj]
 ·simp [List.getD]
def kp19 : List (Nat × List Nat) := [(0, [0, 1]), (1, [0, 1, 5]), (2, [0, 1, 5, 27, 28, 29]), (3, [0, 1, 5, 27, 28, 29, 30]), (4, [0, 1, 5, 7, 27, 28, 29]), (5, [0, 1, 5, 7, 27, 28, 29]), (6, [0, 1, 5, 7, 27, 28, 29, 42, 43, 44]), (7, [0, 1, 5, 7, 27, 28, 29, 42, 43, 44, 45]), (8, [0, 1, 5, 7, 9, 27, 28, 29, 42, 43, 44]), (9, [0, 1, 5, 7, 27, 28, 29, 42, 43, 44]), (10, [0, 1, 5, 7, 27, 28, 29, 42, 43, 44]), (11, [0, 1, 5, 27, 28, 29]), (12, [1, 5, 59, 60, 61]), (13, [1, 5, 59, 60, 61, 62]), (14, [1, 5, 11, 59, 60, 61]), (15, [1, 5, 11, 59, 60, 61, 65, 66, 67]), (16, [1, 5, 11, 59, 60, 61, 65, 66, 67, 68]), (17, [1, 5, 11, 13, 59, 60, 61, 65, 66, 67]), (18, [1, 5, 11, 13, 59, 60, 61, 65, 66, 67, 71, 72, 73]), (19, [1, 5, 11, 13, 59, 60, 61, 65, 66, 67, 71, 72, 73, 74]), (20, [1, 5, 11, 13, 15, 59, 60, 61, 65, 66, 67, 71, 72, 73]), (21, [1, 5, 11, 13, 59, 60, 61, 65, 66, 67, 71, 72, 73]), (22, [1, 5, 11, 13, 59, 60, 61, 65, 66, 67, 71, 72, 73]), (23, [1, 5, 11, 59, 60, 61, 65, 66, 67]), (24, [1, 5, 59, 60, 61]), (25, [1, 5, 16]), (26, [1, 5, 16, 111, 112, 113]), (27, [1, 5, 16, 111, 112, 113, 114]), (28, [1, 5, 16, 17, 18, 111, 112, 113]), (29, [1, 5, 16, 17, 18, 111, 112, 113, 125]), (30, [1, 5, 16, 17, 18, 111, 112, 113, 128, 129, 130]), (31, [1, 5, 16, 17, 18, 111, 112, 113, 128, 129, 130, 131]), (32, [1, 5, 16, 17, 18, 20, 111, 112, 113, 128, 129, 130]), (33, [1, 5, 16, 17, 18, 111, 112, 113, 128, 129, 130, 149]), (34, [1, 5, 16, 17, 18, 111, 112, 113, 128, 129, 130]), (35, [1, 5, 16, 17, 18, 21, 111, 112, 113]), (36, [1, 5, 16, 18, 21, 111, 112, 113, 153, 154, 155]), (37, [1, 5, 16, 18, 21, 111, 112, 113, 153, 154, 155, 156]), (38, [1, 5, 16, 18, 21, 23, 111, 112, 113, 153, 154, 155]), (39, [1, 5, 16, 18, 21, 23, 111, 112, 113, 153, 154, 155, 174]), (40, [1, 5, 16, 18, 21, 111, 112, 113, 153, 154, 155]), (41, [1, 5, 16, 18, 21, 111, 112, 113, 153, 154, 155]), (42, [1, 5, 16, 111, 112, 113]), (43, [1, 5, 16, 111, 112, 113]), (44, [4])]
attribute [go_sem] kp19
theorem parts_fc (p : List Nat) (hp : p ≠ []) (edges : List (List Int)) (set : List Int) (hn : edges.length ≤ 1000) (hs : ∀ i < set.length, 0 ≤ set.getD i default ∧ set.getD i default < edges.length) (hE : ∀ i < edges.length, ∀ j < (edges.getD i default).length, 0 ≤ (edges.getD i default).getD j default ∧ (edges.getD i default).getD j default < edges.length) (hEl : ∀ i < edges.length, (edges.getD i default).length ≤ 1000) (hnd : (natS set).Nodup) (hsl : set.length ≤ 1000) : FC S 19 [] [] [] [.sl .any (edges.map IntsD), .sl .any (set.map (.int .i64))] (Int64SSL p (partsR edges set)) [] [] := by
 refine fc_body Try.func19 rfl (by kernel_rfl) (by simp [Try.f19]) fun B => ?_
 simp only [Try.ntmps19, enumD, lst0, Nat.reduceAdd]
 refine sw_bnd 0 rfl fun hb0 => ?_
 simp only [D.bnd, List.length_map] at hb0
 refine sw_bnd 1 rfl fun hb1 => ?_
 simp only [D.bnd, List.length_map] at hb1
 repeat' first | ((refine sw_scope ?_)) | refine sw_seq ?_ | refine sw_block ?_ | refine sw_inBlock ?_ | refine sw_skip ?_ | refine sw_go 0 kp19 fun K hK => ?_ | refine sw_goT 0 kp19 9 (id := 9) (by kernel_rfl) fun K hK => ?_ | refine sw_goT 0 kp19 31 (id := 21) (by kernel_rfl) fun K hK => ?_ | refine fun (K : KT) (hK : KOk S 0 _ _ _ K) => ?_ | refine sw_goD kp19 (by kernel_rfl) fun K hK => ?_ | ((first | refine runL_go ?_ | refine runQ_go ?_ | refine sw_ret (ret0 ?_) | refine sw_ret ?_); simp (disch := (refine Om.mk ?_; omega)) only [go_sem, Try.results19]) | (refine hK.nil ?_; clear hK K; simp only [go_sem]) | ((first | refine runG_fork rfl rfl rfl rfl rfl ?_ ?_ | refine runQG_fork rfl rfl rfl rfl rfl ?_ ?_ | refine sw_cond rfl ?_ ?_) <;> intro h <;> try simp (disch := (refine Om.mk ?_; omega)) only [go_sem] at h) | refine hK.skp rfl rfl ?_ | refine sw_exit rfl ?_ | refine sw_loopEnd ?_ | (refine hK.fork rfl rfl rfl ?_ ?_ <;> intro h <;> try simp (disch := (refine Om.mk ?_; omega)) only [go_sem] at h) | (with_reducible refine And.intro (by first | omega | (simp only [lens]; omega)) ?_) | ((with_reducible refine And.intro ?_ ?_); · first | (intro x hx; subst hx; rfl) | exact upR_mem fun _ _ => rfl | exact mapR_mem fun _ _ => rfl | (intro x; refine And.intro ?_ ?_ <;> (intros; subst_vars; rfl))) | fail
 have e0 : (List.replicate edges.length [D.sl .nil []]).flatten = gCells edges.length [] := by
  rw [← gCells_rep]; simp
 rw [e0]
 refine sw_loop (ι := Nat) (fun i => ⟨186, [(0, .sl .any (edges.map IntsD)), (1, .sl .any (set.map (.int .i64))), (5, .ms 26 edges.length), (27, .sl .any (set.map (.int .i64))), (28, .int .i64 set.length), (29, .int .i64 i)], (26, gCells edges.length (natS (set.take i))) :: rowsR edges.length (natS (set.take i)) (r0 edges set), [], [], []⟩) (fun i => i ≤ set.length) (fun i => set.length - i) 0 (by refine covers_mk0 rfl rfl ?_ ⟨rfl, boxLe_of fun q hq => by rw [List.take_zero] at hq; exact absurd hq (rows_none _ _ q)⟩ ?_ ?_ <;> simp only [go_sem]; all_goals rfl) (by omega) (fun i hi => ?_)
 by_cases hil : i < set.length
 ·have hsi := hs i hil
  have hpsn : natS (set.take (i + 1)) = natS (set.take i) ++ [(set.getD i default).toNat] := by
   unfold natS
   rw [List.take_add_one, List.map_append, List.getElem?_eq_getElem hil]
   simp [List.getD_eq_getElem?_getD, hil]
  have hnd1 : (natS (set.take (i + 1))).Nodup := by
   have : (natS (set.take (i + 1))).Sublist (natS set) := (List.take_sublist _ _).map _
   exact this.nodup hnd
  have hqn : (set.getD i default).toNat ∉ natS (set.take i) := by
   rw [hpsn, List.nodup_append] at hnd1
   exact fun h => hnd1.2.2 _ h _ (List.mem_singleton.2 rfl) rfl
  have hmk : 1 ≤ mk1 (natS (set.take (i + 1))) (set.getD i default).toNat := mk1_iff.2 (by rw [hpsn]; simp)
  have hndk := nd1_iff.2 hnd1
  repeat' first | ((exfalso; omega)) | refine sw_seq ?_ | refine sw_block ?_ | refine sw_inBlock ?_ | refine sw_skip ?_ | refine sw_go 0 kp19 fun K hK => ?_ | refine sw_goT 0 kp19 9 (id := 9) (by kernel_rfl) fun K hK => ?_ | refine sw_goT 0 kp19 31 (id := 21) (by kernel_rfl) fun K hK => ?_ | refine fun (K : KT) (hK : KOk S 0 _ _ _ K) => ?_ | refine sw_goD kp19 (by kernel_rfl) fun K hK => ?_ | ((first | refine runL_go ?_ | refine runQ_go ?_ | refine sw_ret (ret0 ?_) | refine sw_ret ?_); simp (disch := (refine Om.mk ?_; omega)) only [go_sem, Try.results19]) | (refine hK.nil ?_; clear hK K; simp only [go_sem]) | ((first | refine runG_fork rfl rfl rfl rfl rfl ?_ ?_ | refine runQG_fork rfl rfl rfl rfl rfl ?_ ?_ | refine sw_cond rfl ?_ ?_) <;> intro h <;> try simp (disch := (refine Om.mk ?_; omega)) only [go_sem] at h) | refine hK.skp rfl rfl ?_ | refine sw_exit rfl ?_ | refine sw_loopEnd ?_ | (refine hK.fork rfl rfl rfl ?_ ?_ <;> intro h <;> try simp (disch := (refine Om.mk ?_; omega)) only [go_sem] at h) | (with_reducible refine And.intro (by first | omega | (simp only [lens]; omega)) ?_) | ((with_reducible refine And.intro ?_ ?_); · first | (intro x hx; subst hx; rfl) | exact upR_mem fun _ _ => rfl | exact mapR_mem fun _ _ => rfl | (intro x; refine And.intro ?_ ?_ <;> (intros; subst_vars; rfl))) | fail
  have hren := ren_rows (n := edges.length) (r := r0 edges set) hqn
  rw [← hpsn] at hren
  refine sw_renBox (L' := ⟨186, [(0, .sl .any (edges.map IntsD)), (1, .sl .any (set.map (.int .i64))), (5, .ms 26 edges.length), (7, .int .i64 (set.getD i default)), (27, .sl .any (set.map (.int .i64))), (28, .int .i64 set.length), (29, .int .i64 i), (42, .sl .any ((edges.getD (set.getD i default).toNat default).map (.int .i64))), (43, .int .i64 (edges.getD (set.getD i default).toNat default).length), (44, .int .i64 0)], (26, gCells edges.length (natS (set.take (i + 1)))) :: rowsR edges.length (natS (set.take (i + 1))) (fun x => if x = (set.getD i default).toNat then fun _ => false else r0 edges set x), [], [], []⟩) 37 ((set.getD i default).toNat + 5000) (by omega) (by simp) (by simp) rfl rfl rfl rfl (fun q hq => ?_) hren ?_
  ·simp only [List.mem_cons, List.not_mem_nil, or_false] at hq
   rcases hq with rfl | rfl | rfl | rfl | rfl | rfl | rfl | rfl | rfl | rfl
   all_goals first | exact ⟨_, rfl, RenB.keep rfl⟩ | (refine ⟨_, rfl, .inl ⟨?_, ?_, rfl⟩⟩ <;> simp only [D.ids, List.mem_singleton] <;> omega)
  have hEp := hE (set.getD i default).toNat (by omega)
  have hElp := hEl (set.getD i default).toNat (by omega)
  refine sw_loop (ι := Nat) (fun j => ⟨186, [(0, .sl .any (edges.map IntsD)), (1, .sl .any (set.map (.int .i64))), (5, .ms 26 edges.length), (7, .int .i64 (set.getD i default)), (27, .sl .any (set.map (.int .i64))), (28, .int .i64 set.length), (29, .int .i64 i), (42, .sl .any ((edges.getD (set.getD i default).toNat default).map (.int .i64))), (43, .int .i64 (edges.getD (set.getD i default).toNat default).length), (44, .int .i64 j)], (26, gCells edges.length (natS (set.take (i + 1)))) :: rowsR edges.length (natS (set.take (i + 1))) (fun x => if x = (set.getD i default).toNat then rJ edges set (set.getD i default).toNat j else r0 edges set x), [], [], []⟩) (fun j => j ≤ (edges.getD (set.getD i default).toNat default).length) (fun j => (edges.getD (set.getD i default).toNat default).length - j) 0 (by rw [rJ_zero]; refine covers_mk0 rfl rfl ?_ (rowsR_self hnd1 _) ?_ ?_ <;> simp only [go_sem]; all_goals first | rfl | trace_state) (by omega) (fun j hj => ?_)
  by_cases hjl : j < (edges.getD (set.getD i default).toNat default).length
  ·have hej := hEp j hjl
   repeat' first | ((exfalso; omega)) | ((simp (disch := (refine Om.mk ?_; omega)) only [look_rowsR, if_true]; simp (disch := (refine Om.mk ?_; omega)) only [go_sem])) | refine sw_seq ?_ | refine sw_block ?_ | refine sw_inBlock ?_ | refine sw_skip ?_ | refine sw_go 0 kp19 fun K hK => ?_ | refine sw_goT 0 kp19 9 (id := 9) (by kernel_rfl) fun K hK => ?_ | refine sw_goT 0 kp19 31 (id := 21) (by kernel_rfl) fun K hK => ?_ | refine fun (K : KT) (hK : KOk S 0 _ _ _ K) => ?_ | refine sw_goD kp19 (by kernel_rfl) fun K hK => ?_ | ((first | refine runL_go ?_ | refine runQ_go ?_ | refine sw_ret (ret0 ?_) | refine sw_ret ?_); simp (disch := (refine Om.mk ?_; omega)) only [go_sem, Try.results19]) | (refine hK.nil ?_; clear hK K; simp only [go_sem]) | ((first | refine runG_fork rfl rfl rfl rfl rfl ?_ ?_ | refine runQG_fork rfl rfl rfl rfl rfl ?_ ?_ | refine sw_cond rfl ?_ ?_) <;> intro h <;> try simp (disch := (refine Om.mk ?_; omega)) only [go_sem] at h) | refine hK.skp rfl rfl ?_ | refine sw_exit rfl ?_ | refine sw_loopEnd ?_ | refine hK.c0 rfl rfl rfl (contains_fc _ _ _) rfl rfl rfl ?_ | (refine hK.fork rfl rfl rfl ?_ ?_ <;> intro h <;> try simp (disch := (refine Om.mk ?_; omega)) only [go_sem] at h) | (with_reducible refine And.intro (by first | omega | (simp only [lens]; omega)) ?_) | ((with_reducible refine And.intro ?_ ?_); · first | (intro x hx; subst hx; rfl) | exact upR_mem fun _ _ => rfl | exact mapR_mem fun _ _ => rfl | (intro x; refine And.intro ?_ ?_ <;> (intros; subst_vars; rfl))) | fail
   refine ⟨j + 1, ?_, by omega, by omega⟩
   rw [← rJ_succ hjl hej.1]
   refine covers_mk0 rfl rfl ?_ (rows_eq hnd1 _ (fun x => ?_)) ?_ ?_
   ·simp (disch := (refine Om.mk ?_; omega)) only [go_sem]
    all_goals first | omega | trace_state
   ·by_cases e : x = (set.getD i default).toNat
    ·simp only [if_pos e]
    ·simp only [if_neg e]
   ·simp only [go_sem]
   ·simp only [go_sem]
  ·repeat' first | ((exfalso; omega)) | refine sw_seq ?_ | refine sw_block ?_ | refine sw_inBlock ?_ | refine sw_skip ?_ | refine sw_go 0 kp19 fun K hK => ?_ | refine sw_goT 0 kp19 9 (id := 9) (by kernel_rfl) fun K hK => ?_ | refine sw_goT 0 kp19 31 (id := 21) (by kernel_rfl) fun K hK => ?_ | refine fun (K : KT) (hK : KOk S 0 _ _ _ K) => ?_ | refine sw_goD kp19 (by kernel_rfl) fun K hK => ?_ | ((first | refine runL_go ?_ | refine runQ_go ?_ | refine sw_ret (ret0 ?_) | refine sw_ret ?_); simp (disch := (refine Om.mk ?_; omega)) only [go_sem, Try.results19]) | (refine hK.nil ?_; clear hK K; simp only [go_sem]) | ((first | refine runG_fork rfl rfl rfl rfl rfl ?_ ?_ | refine runQG_fork rfl rfl rfl rfl rfl ?_ ?_ | refine sw_cond rfl ?_ ?_) <;> intro h <;> try simp (disch := (refine Om.mk ?_; omega)) only [go_sem] at h) | refine hK.skp rfl rfl ?_ | refine sw_exit rfl ?_ | refine sw_loopEnd ?_ | (refine hK.fork rfl rfl rfl ?_ ?_ <;> intro h <;> try simp (disch := (refine Om.mk ?_; omega)) only [go_sem] at h) | (with_reducible refine And.intro (by first | omega | (simp only [lens]; omega)) ?_) | ((with_reducible refine And.intro ?_ ?_); · first | (intro x hx; subst hx; rfl) | exact upR_mem fun _ _ => rfl | exact mapR_mem fun _ _ => rfl | (intro x; refine And.intro ?_ ?_ <;> (intros; subst_vars; rfl))) | fail
   obtain rfl : j = (edges.getD (set.getD i default).toNat default).length := by omega
   refine ⟨i + 1, ?_, by omega, by omega⟩
   refine covers_mk0 rfl rfl ?_ (rows_eq hnd1 _ (fun x => ?_)) ?_ ?_
   ·simp (disch := (refine Om.mk ?_; omega)) only [go_sem]
    all_goals first | omega | trace_state
   ·by_cases e : x = (set.getD i default).toNat
    ·rw [if_pos e, e]; exact rJ_end _ _ _
    ·rw [if_neg e]
   ·simp only [go_sem]
   ·simp only [go_sem]
 ·obtain rfl : i = set.length := by omega
  have hmk : ∀ i < set.length, 1 ≤ mk1 (natS set) (set.getD i default).toNat := fun i hi => mk1_iff.2 (by
   unfold natS
   refine List.mem_map.2 ⟨_, ?_, rfl⟩
   rw [List.getD_eq_getElem?_getD, List.getElem?_eq_getElem hi]; exact List.getElem_mem hi)
  have hndk := nd1_iff.2 hnd
  repeat' first | ((exfalso; omega)) | refine sw_seq ?_ | refine sw_block ?_ | refine sw_inBlock ?_ | refine sw_skip ?_ | refine sw_go 0 kp19 fun K hK => ?_ | refine sw_goT 0 kp19 9 (id := 9) (by kernel_rfl) fun K hK => ?_ | refine sw_goT 0 kp19 31 (id := 21) (by kernel_rfl) fun K hK => ?_ | refine fun (K : KT) (hK : KOk S 0 _ _ _ K) => ?_ | refine sw_goD kp19 (by kernel_rfl) fun K hK => ?_ | ((first | refine runL_go ?_ | refine runQ_go ?_ | refine sw_ret (ret0 ?_) | refine sw_ret ?_); simp (disch := (refine Om.mk ?_; omega)) only [go_sem, Try.results19]) | (refine hK.nil ?_; clear hK K; simp only [go_sem]) | ((first | refine runG_fork rfl rfl rfl rfl rfl ?_ ?_ | refine runQG_fork rfl rfl rfl rfl rfl ?_ ?_ | refine sw_cond rfl ?_ ?_) <;> intro h <;> try simp (disch := (refine Om.mk ?_; omega)) only [go_sem] at h) | refine hK.skp rfl rfl ?_ | refine sw_exit rfl ?_ | refine sw_loopEnd ?_ | (refine hK.fork rfl rfl rfl ?_ ?_ <;> intro h <;> try simp (disch := (refine Om.mk ?_; omega)) only [go_sem] at h) | (with_reducible refine And.intro (by first | omega | (simp only [lens]; omega)) ?_) | ((with_reducible refine And.intro ?_ ?_); · first | (intro x hx; subst hx; rfl) | exact upR_mem fun _ _ => rfl | exact mapR_mem fun _ _ => rfl | (intro x; refine And.intro ?_ ?_ <;> (intros; subst_vars; rfl))) | fail
  rw [show r0 edges set = wM (natS set) (r0 edges set) 0 from rfl]
  refine sw_loop (ι := Nat) (fun i => ⟨186, [(1, .sl .any (set.map (.int .i64))), (5, .ms 26 edges.length), (59, .sl .any (set.map (.int .i64))), (60, .int .i64 set.length), (61, .int .i64 i)], (26, gCells edges.length (natS set)) :: rowsR edges.length (natS set) (wM (natS set) (r0 edges set) i), [], [], []⟩) (fun i => i ≤ set.length) (fun i => set.length - i) 0 (by refine covers_mk0 rfl rfl ?_ (rowsR_self hnd _) ?_ ?_ <;> simp only [go_sem]; all_goals first | rfl | trace_state) (by omega) (fun i hi => ?_)
  by_cases hil : i < set.length
  ·have hsi := hs i hil
   have hmi := hmk i hil
   repeat' first | ((exfalso; omega)) | refine sw_seq ?_ | refine sw_block ?_ | refine sw_inBlock ?_ | refine sw_skip ?_ | refine sw_go 0 kp19 fun K hK => ?_ | refine sw_goT 0 kp19 9 (id := 9) (by kernel_rfl) fun K hK => ?_ | refine sw_goT 0 kp19 31 (id := 21) (by kernel_rfl) fun K hK => ?_ | refine fun (K : KT) (hK : KOk S 0 _ _ _ K) => ?_ | refine sw_goD kp19 (by kernel_rfl) fun K hK => ?_ | ((first | refine runL_go ?_ | refine runQ_go ?_ | refine sw_ret (ret0 ?_) | refine sw_ret ?_); simp (disch := (refine Om.mk ?_; omega)) only [go_sem, Try.results19]) | (refine hK.nil ?_; clear hK K; simp only [go_sem]) | ((first | refine runG_fork rfl rfl rfl rfl rfl ?_ ?_ | refine runQG_fork rfl rfl rfl rfl rfl ?_ ?_ | refine sw_cond rfl ?_ ?_) <;> intro h <;> try simp (disch := (refine Om.mk ?_; omega)) only [go_sem] at h) | refine hK.skp rfl rfl ?_ | refine sw_exit rfl ?_ | refine sw_loopEnd ?_ | (refine hK.fork rfl rfl rfl ?_ ?_ <;> intro h <;> try simp (disch := (refine Om.mk ?_; omega)) only [go_sem] at h) | (with_reducible refine And.intro (by first | omega | (simp only [lens]; omega)) ?_) | ((with_reducible refine And.intro ?_ ?_); · first | (intro x hx; subst hx; rfl) | exact upR_mem fun _ _ => rfl | exact mapR_mem fun _ _ => rfl | (intro x; refine And.intro ?_ ?_ <;> (intros; subst_vars; rfl))) | fail
   generalize hR0 : wM (natS set) (r0 edges set) i = R0
   rw [show R0 = wP R0 (natS set |>.getD i default) (natS set) 0 from rfl]
   refine sw_loop (ι := Nat) (fun j => ⟨186, [(1, .sl .any (set.map (.int .i64))), (5, .ms 26 edges.length), (11, .int .i64 (set.getD i default)), (59, .sl .any (set.map (.int .i64))), (60, .int .i64 set.length), (61, .int .i64 i), (65, .sl .any (set.map (.int .i64))), (66, .int .i64 set.length), (67, .int .i64 j)], (26, gCells edges.length (natS set)) :: rowsR edges.length (natS set) (wP R0 ((natS set).getD i default) (natS set) j), [], [], []⟩) (fun j => j ≤ set.length) (fun j => set.length - j) 0 (by refine covers_mk0 rfl rfl ?_ (rowsR_self hnd _) ?_ ?_ <;> simp only [go_sem]; all_goals first | rfl | trace_state) (by omega) (fun j hj => ?_)
   by_cases hjl : j < set.length
   ·have hsj := hs j hjl
    have hmj := hmk j hjl
    repeat' first | ((exfalso; omega)) | refine sw_seq ?_ | refine sw_block ?_ | refine sw_inBlock ?_ | refine sw_skip ?_ | refine sw_go 0 kp19 fun K hK => ?_ | refine sw_goT 0 kp19 9 (id := 9) (by kernel_rfl) fun K hK => ?_ | refine sw_goT 0 kp19 31 (id := 21) (by kernel_rfl) fun K hK => ?_ | refine fun (K : KT) (hK : KOk S 0 _ _ _ K) => ?_ | refine sw_goD kp19 (by kernel_rfl) fun K hK => ?_ | ((first | refine runL_go ?_ | refine runQ_go ?_ | refine sw_ret (ret0 ?_) | refine sw_ret ?_); simp (disch := (refine Om.mk ?_; omega)) only [go_sem, Try.results19]) | (refine hK.nil ?_; clear hK K; simp only [go_sem]) | ((first | refine runG_fork rfl rfl rfl rfl rfl ?_ ?_ | refine runQG_fork rfl rfl rfl rfl rfl ?_ ?_ | refine sw_cond rfl ?_ ?_) <;> intro h <;> try simp (disch := (refine Om.mk ?_; omega)) only [go_sem] at h) | refine hK.skp rfl rfl ?_ | refine sw_exit rfl ?_ | refine sw_loopEnd ?_ | (refine hK.fork rfl rfl rfl ?_ ?_ <;> intro h <;> try simp (disch := (refine Om.mk ?_; omega)) only [go_sem] at h) | (with_reducible refine And.intro (by first | omega | (simp only [lens]; omega)) ?_) | ((with_reducible refine And.intro ?_ ?_); · first | (intro x hx; subst hx; rfl) | exact upR_mem fun _ _ => rfl | exact mapR_mem fun _ _ => rfl | (intro x; refine And.intro ?_ ?_ <;> (intros; subst_vars; rfl))) | fail
    generalize hR1 : wP R0 ((natS set).getD i default) (natS set) j = R1
    rw [show R1 = wQ R1 ((natS set).getD i default) ((natS set).getD j default) (natS set) 0 from rfl]
    refine sw_loop (ι := Nat) (fun k => ⟨186, [(1, .sl .any (set.map (.int .i64))), (5, .ms 26 edges.length), (11, .int .i64 (set.getD i default)), (13, .int .i64 (set.getD j default)), (59, .sl .any (set.map (.int .i64))), (60, .int .i64 set.length), (61, .int .i64 i), (65, .sl .any (set.map (.int .i64))), (66, .int .i64 set.length), (67, .int .i64 j), (71, .sl .any (set.map (.int .i64))), (72, .int .i64 set.length), (73, .int .i64 k)], (26, gCells edges.length (natS set)) :: rowsR edges.length (natS set) (wQ R1 ((natS set).getD i default) ((natS set).getD j default) (natS set) k), [], [], []⟩) (fun k => k ≤ set.length) (fun k => set.length - k) 0 (by refine covers_mk0 rfl rfl ?_ (rowsR_self hnd _) ?_ ?_ <;> simp only [go_sem]; all_goals first | rfl | trace_state) (by omega) (fun k hk => ?_)
    by_cases hkl : k < set.length
    ·have hsk := hs k hkl
     have hmk := hmk k hkl
     have hw := wQ_succ R1 ((natS set).getD i default) ((natS set).getD j default) (natS set) k
     generalize hR2 : wQ R1 ((natS set).getD i default) ((natS set).getD j default) (natS set) k = R2 at hw ⊢
     rw [natS_get hkl, natS_get hil, natS_get hjl] at hw
     repeat' first | ((exfalso; omega)) | ((simp (disch := (refine Om.mk ?_; omega)) only [look_rowsR, if_true]; simp (disch := (refine Om.mk ?_; omega)) only [go_sem])) | refine sw_seq ?_ | refine sw_block ?_ | refine sw_inBlock ?_ | refine sw_skip ?_ | refine sw_go 0 kp19 fun K hK => ?_ | refine sw_goT 0 kp19 9 (id := 9) (by kernel_rfl) fun K hK => ?_ | refine sw_goT 0 kp19 31 (id := 21) (by kernel_rfl) fun K hK => ?_ | refine fun (K : KT) (hK : KOk S 0 _ _ _ K) => ?_ | refine sw_goD kp19 (by kernel_rfl) fun K hK => ?_ | ((first | refine runL_go ?_ | refine runQ_go ?_ | refine sw_ret (ret0 ?_) | refine sw_ret ?_); simp (disch := (refine Om.mk ?_; omega)) only [go_sem, Try.results19]) | (refine hK.nil ?_; clear hK K; simp only [go_sem]) | ((first | refine runG_fork rfl rfl rfl rfl rfl ?_ ?_ | refine runQG_fork rfl rfl rfl rfl rfl ?_ ?_ | refine sw_cond rfl ?_ ?_) <;> intro h <;> try simp (disch := (refine Om.mk ?_; omega)) only [go_sem] at h) | refine hK.skp rfl rfl ?_ | refine sw_exit rfl ?_ | refine sw_loopEnd ?_ | (refine hK.fork rfl rfl rfl ?_ ?_ <;> intro h <;> try simp (disch := (refine Om.mk ?_; omega)) only [go_sem] at h) | (with_reducible refine And.intro (by first | omega | (simp only [lens]; omega)) ?_) | ((with_reducible refine And.intro ?_ ?_); · first | (intro x hx; subst hx; rfl) | exact upR_mem fun _ _ => rfl | exact mapR_mem fun _ _ => rfl | (intro x; refine And.intro ?_ ?_ <;> (intros; subst_vars; rfl))) | fail
     all_goals refine ⟨k + 1, ?_, by omega, by omega⟩
     all_goals refine covers_mk0 rfl rfl ?_ (rows_eq hnd _ (fun x => ?_)) ?_ ?_
     all_goals first | (simp only [go_sem]; done) | (simp (disch := (refine Om.mk ?_; omega)) only [go_sem]; first | done | omega) | skip
     all_goals rw [natS_get hil, natS_get hjl] at *
     all_goals rw [hw x]
     all_goals by_cases e : x = (set.getD j default).toNat
     all_goals first | (simp only [if_neg e]; done) | skip
     all_goals simp only [if_pos e]
     all_goals funext y
     all_goals by_cases e2 : y = (set.getD k default).toNat
     all_goals first | (simp only [if_neg e2, e]; done) | (simp_all; done) | trace_state
    ·obtain rfl : k = set.length := by omega
     repeat' first | ((exfalso; omega)) | refine sw_seq ?_ | refine sw_block ?_ | refine sw_inBlock ?_ | refine sw_skip ?_ | refine sw_go 0 kp19 fun K hK => ?_ | refine sw_goT 0 kp19 9 (id := 9) (by kernel_rfl) fun K hK => ?_ | refine sw_goT 0 kp19 31 (id := 21) (by kernel_rfl) fun K hK => ?_ | refine fun (K : KT) (hK : KOk S 0 _ _ _ K) => ?_ | refine sw_goD kp19 (by kernel_rfl) fun K hK => ?_ | ((first | refine runL_go ?_ | refine runQ_go ?_ | refine sw_ret (ret0 ?_) | refine sw_ret ?_); simp (disch := (refine Om.mk ?_; omega)) only [go_sem, Try.results19]) | (refine hK.nil ?_; clear hK K; simp only [go_sem]) | ((first | refine runG_fork rfl rfl rfl rfl rfl ?_ ?_ | refine runQG_fork rfl rfl rfl rfl rfl ?_ ?_ | refine sw_cond rfl ?_ ?_) <;> intro h <;> try simp (disch := (refine Om.mk ?_; omega)) only [go_sem] at h) | refine hK.skp rfl rfl ?_ | refine sw_exit rfl ?_ | refine sw_loopEnd ?_ | (refine hK.fork rfl rfl rfl ?_ ?_ <;> intro h <;> try simp (disch := (refine Om.mk ?_; omega)) only [go_sem] at h) | (with_reducible refine And.intro (by first | omega | (simp only [lens]; omega)) ?_) | ((with_reducible refine And.intro ?_ ?_); · first | (intro x hx; subst hx; rfl) | exact upR_mem fun _ _ => rfl | exact mapR_mem fun _ _ => rfl | (intro x; refine And.intro ?_ ?_ <;> (intros; subst_vars; rfl))) | fail
     refine ⟨j + 1, ?_, by omega, by omega⟩
     refine covers_mk0 rfl rfl ?_ (rows_eq hnd _ (fun x => ?_)) ?_ ?_
     ·simp (disch := (refine Om.mk ?_; omega)) only [go_sem]
      all_goals first | omega | trace_state
     ·show _ = wQ (wP R0 ((natS set).getD i default) (natS set) j) ((natS set).getD i default) ((natS set).getD j default) (natS set) (natS set).length x
      rw [hR1, natS_len]
     ·simp only [go_sem]
     ·simp only [go_sem]
   ·obtain rfl : j = set.length := by omega
    repeat' first | ((exfalso; omega)) | refine sw_seq ?_ | refine sw_block ?_ | refine sw_inBlock ?_ | refine sw_skip ?_ | refine sw_go 0 kp19 fun K hK => ?_ | refine sw_goT 0 kp19 9 (id := 9) (by kernel_rfl) fun K hK => ?_ | refine sw_goT 0 kp19 31 (id := 21) (by kernel_rfl) fun K hK => ?_ | refine fun (K : KT) (hK : KOk S 0 _ _ _ K) => ?_ | refine sw_goD kp19 (by kernel_rfl) fun K hK => ?_ | ((first | refine runL_go ?_ | refine runQ_go ?_ | refine sw_ret (ret0 ?_) | refine sw_ret ?_); simp (disch := (refine Om.mk ?_; omega)) only [go_sem, Try.results19]) | (refine hK.nil ?_; clear hK K; simp only [go_sem]) | ((first | refine runG_fork rfl rfl rfl rfl rfl ?_ ?_ | refine runQG_fork rfl rfl rfl rfl rfl ?_ ?_ | refine sw_cond rfl ?_ ?_) <;> intro h <;> try simp (disch := (refine Om.mk ?_; omega)) only [go_sem] at h) | refine hK.skp rfl rfl ?_ | refine sw_exit rfl ?_ | refine sw_loopEnd ?_ | (refine hK.fork rfl rfl rfl ?_ ?_ <;> intro h <;> try simp (disch := (refine Om.mk ?_; omega)) only [go_sem] at h) | (with_reducible refine And.intro (by first | omega | (simp only [lens]; omega)) ?_) | ((with_reducible refine And.intro ?_ ?_); · first | (intro x hx; subst hx; rfl) | exact upR_mem fun _ _ => rfl | exact mapR_mem fun _ _ => rfl | (intro x; refine And.intro ?_ ?_ <;> (intros; subst_vars; rfl))) | fail
    refine ⟨i + 1, ?_, by omega, by omega⟩
    refine covers_mk0 rfl rfl ?_ (rows_eq hnd _ (fun x => ?_)) ?_ ?_
    ·simp (disch := (refine Om.mk ?_; omega)) only [go_sem]
     all_goals first | omega | trace_state
    ·show _ = wP (wM (natS set) (r0 edges set) i) ((natS set).getD i default) (natS set) (natS set).length x
     rw [hR0, natS_len]
    ·simp only [go_sem]
    ·simp only [go_sem]
  ·obtain rfl : i = set.length := by omega
   repeat' first | ((refine sw_label ?_)) | ((exfalso; omega)) | refine sw_seq ?_ | refine sw_block ?_ | refine sw_inBlock ?_ | refine sw_skip ?_ | refine sw_go 0 kp19 fun K hK => ?_ | refine sw_goT 0 kp19 9 (id := 9) (by kernel_rfl) fun K hK => ?_ | refine sw_goT 0 kp19 31 (id := 21) (by kernel_rfl) fun K hK => ?_ | refine fun (K : KT) (hK : KOk S 0 _ _ _ K) => ?_ | refine sw_goD kp19 (by kernel_rfl) fun K hK => ?_ | ((first | refine runL_go ?_ | refine runQ_go ?_ | refine sw_ret (ret0 ?_) | refine sw_ret ?_); simp (disch := (refine Om.mk ?_; omega)) only [go_sem, Try.results19]) | (refine hK.nil ?_; clear hK K; simp only [go_sem]) | ((first | refine runG_fork rfl rfl rfl rfl rfl ?_ ?_ | refine runQG_fork rfl rfl rfl rfl rfl ?_ ?_ | refine sw_cond rfl ?_ ?_) <;> intro h <;> try simp (disch := (refine Om.mk ?_; omega)) only [go_sem] at h) | refine hK.skp rfl rfl ?_ | refine sw_exit rfl ?_ | refine sw_loopEnd ?_ | (refine hK.fork rfl rfl rfl ?_ ?_ <;> intro h <;> try simp (disch := (refine Om.mk ?_; omega)) only [go_sem] at h) | (with_reducible refine And.intro (by first | omega | (simp only [lens]; omega)) ?_) | ((with_reducible refine And.intro ?_ ?_); · first | (intro x hx; subst hx; rfl) | exact upR_mem fun _ _ => rfl | exact mapR_mem fun _ _ => rfl | (intro x; refine And.intro ?_ ?_ <;> (intros; subst_vars; rfl))) | fail
   unfold partsR
   generalize wM (natS set) (r0 edges set) set.length = C
   refine sw_tok 16 184000 27 1 rfl (.inl rfl) (by simp [LS.purge, LS.clean, mapA, D.pu, D.pu1, D.tks, D.tksL, gC_pu, rows_pu, gC_tks, rows_tks]) ?_
   simp only [go_sem, gC_pu, rows_pu]
   refine sw_loop (ι := Nat) (fun i => ⟨186, [(1, .sl .any (set.map (.int .i64))), (5, .ms 26 edges.length), (16, .sl (.own 184000 27 1) (mapR (fun i y => Int64SL (p ++ [i] ++ [0]) y) (cmp C set i))), (111, .sl .any (set.map (.int .i64))), (112, .int .i64 set.length), (113, .int .i64 i)], (26, gCells edges.length (natS set)) :: rowsR edges.length (natS set) C, [], [184000], []⟩) (fun i => i ≤ set.length) (fun i => set.length - i) 0 (by refine covers_mk0 rfl rfl ?_ (rowsR_self hnd _) ?_ ?_ <;> simp only [go_sem]; all_goals first | rfl | exact ⟨rfl, rfl⟩ | trace_state) (by omega) (fun i hi => ?_)
   have hcl := cmp_len C set i
   by_cases hil : i < set.length
   ·have hsi := hs i hil
    have hmi := hmk i hil
    repeat' first | ((exfalso; omega)) | ((simp (disch := (refine Om.mk ?_; omega)) only [look_rowsR, if_true]; simp (disch := (refine Om.mk ?_; omega)) only [go_sem])) | refine sw_seq ?_ | refine sw_block ?_ | refine sw_inBlock ?_ | refine sw_skip ?_ | refine sw_go 0 kp19 fun K hK => ?_ | refine sw_goT 0 kp19 9 (id := 9) (by kernel_rfl) fun K hK => ?_ | refine sw_goT 0 kp19 31 (id := 21) (by kernel_rfl) fun K hK => ?_ | refine fun (K : KT) (hK : KOk S 0 _ _ _ K) => ?_ | refine sw_goD kp19 (by kernel_rfl) fun K hK => ?_ | ((first | refine runL_go ?_ | refine runQ_go ?_ | refine sw_ret (ret0 ?_) | refine sw_ret ?_); simp (disch := (refine Om.mk ?_; omega)) only [go_sem, Try.results19]) | (refine hK.nil ?_; clear hK K; simp only [go_sem]) | ((first | refine runG_fork rfl rfl rfl rfl rfl ?_ ?_ | refine runQG_fork rfl rfl rfl rfl rfl ?_ ?_ | refine sw_cond rfl ?_ ?_) <;> intro h <;> try simp (disch := (refine Om.mk ?_; omega)) only [go_sem] at h) | refine hK.skp rfl rfl ?_ | refine sw_exit rfl ?_ | refine sw_loopEnd ?_ | (refine hK.fork rfl rfl rfl ?_ ?_ <;> intro h <;> try simp (disch := (refine Om.mk ?_; omega)) only [go_sem] at h) | (with_reducible refine And.intro (by first | omega | (simp only [lens]; omega)) ?_) | ((with_reducible refine And.intro ?_ ?_); · first | (intro x hx; subst hx; rfl) | exact upR_mem fun _ _ => rfl | exact mapR_mem fun _ _ => rfl | (intro x; refine And.intro ?_ ?_ <;> (intros; subst_vars; rfl))) | fail
    ·refine ⟨i + 1, ?_, by omega, by omega⟩
     rw [cmp_no (fun h2 => by rw [h2.1] at h; cases h)]
     refine covers_mk0 rfl rfl ?_ (rowsR_self hnd _) ?_ ?_ <;> simp only [go_sem]
     all_goals omega
    ·have hcc := h
     have hti : (set.take i).length = i := by rw [List.length_take]; omega
     have htg : ∀ l < i, (set.take i).getD l default = set.getD l default := fun l hl => by
      simp [List.getD_eq_getElem?_getD, hl]
     refine sw_loop (ι := Nat) (fun k => ⟨186, [(1, .sl .any (set.map (.int .i64))), (5, .ms 26 edges.length), (16, .sl (.own 184000 27 1) (mapR (fun i y => Int64SL (p ++ [i] ++ [0]) y) (cmp C set i))), (17, .int .i64 i), (18, .int .i64 (set.getD i default)), (111, .sl .any (set.map (.int .i64))), (112, .int .i64 set.length), (113, .int .i64 i), (128, .sl .any ((set.take i).map (.int .i64))), (129, .int .i64 (set.take i).length), (130, .int .i64 k)], (26, gCells edges.length (natS set)) :: rowsR edges.length (natS set) C, [], [184000], []⟩) (fun k => k ≤ i ∧ ∀ l < k, bothC C (set.getD i default).toNat (set.getD l default).toNat = false) (fun k => i - k) 0 (by refine covers_mk0 rfl rfl ?_ (rowsR_self hnd _) ?_ ?_ <;> simp only [go_sem]; all_goals first | rfl | exact ⟨rfl, rfl⟩ | trace_state) ⟨by omega, fun l hl => by omega⟩ (fun k hk => ?_)
     obtain ⟨hk, hkl⟩ := hk
     by_cases hki : k < i
     ·have hsk := hs k (by omega)
      have hmk2 := hmk k (by omega)
      have htk := htg k hki
      rw [← htk] at hsk hmk2
      have hno : C (set.getD i default).toNat ((set.take i).getD k default).toNat = true → C ((set.take i).getD k default).toNat (set.getD i default).toNat = true → ¬ okC C set i := fun h1 h2 h3 => by
       have := h3.2 k hki
       unfold bothC at this
       rw [← htk, h1, h2] at this
       cases this
      have hup : C (set.getD i default).toNat ((set.take i).getD k default).toNat = false ∨ C ((set.take i).getD k default).toNat (set.getD i default).toNat = false → ∀ l < k + 1, bothC C (set.getD i default).toNat (set.getD l default).toNat = false := fun h1 l hl => by
       by_cases e : l = k
       ·subst e
        unfold bothC
        rw [← htk]
        rcases h1 with h1 | h1
        ·rw [h1]; rfl
        ·rw [h1, Bool.and_false]
       ·exact hkl l (by omega)
      repeat' first | ((exfalso; omega)) | ((simp (disch := (refine Om.mk ?_; omega)) only [look_rowsR, if_true]; simp (disch := (refine Om.mk ?_; omega)) only [go_sem])) | refine sw_seq ?_ | refine sw_block ?_ | refine sw_inBlock ?_ | refine sw_skip ?_ | refine sw_go 0 kp19 fun K hK => ?_ | refine sw_goT 0 kp19 9 (id := 9) (by kernel_rfl) fun K hK => ?_ | refine sw_goT 0 kp19 31 (id := 21) (by kernel_rfl) fun K hK => ?_ | refine fun (K : KT) (hK : KOk S 0 _ _ _ K) => ?_ | refine sw_goD kp19 (by kernel_rfl) fun K hK => ?_ | ((first | refine runL_go ?_ | refine runQ_go ?_ | refine sw_ret (ret0 ?_) | refine sw_ret ?_); simp (disch := (refine Om.mk ?_; omega)) only [go_sem, Try.results19]) | (refine hK.nil ?_; clear hK K; simp only [go_sem]) | ((first | refine runG_fork rfl rfl rfl rfl rfl ?_ ?_ | refine runQG_fork rfl rfl rfl rfl rfl ?_ ?_ | refine sw_cond rfl ?_ ?_) <;> intro h <;> try simp (disch := (refine Om.mk ?_; omega)) only [go_sem] at h) | refine hK.skp rfl rfl ?_ | refine sw_exit rfl ?_ | refine sw_loopEnd ?_ | (refine hK.fork rfl rfl rfl ?_ ?_ <;> intro h <;> try simp (disch := (refine Om.mk ?_; omega)) only [go_sem] at h) | (with_reducible refine And.intro (by first | omega | (simp only [lens]; omega)) ?_) | ((with_reducible refine And.intro ?_ ?_); · first | (intro x hx; subst hx; rfl) | exact upR_mem fun _ _ => rfl | exact mapR_mem fun _ _ => rfl | (intro x; refine And.intro ?_ ?_ <;> (intros; subst_vars; rfl))) | fail
      all_goals first | (refine ⟨k + 1, ?_, ⟨by omega, hup (by first | exact .inl (by assumption) | exact .inr (by assumption))⟩, by omega⟩; refine covers_mk0 rfl rfl ?_ (rowsR_self hnd _) ?_ ?_ <;> simp only [go_sem]; all_goals first | omega | trace_state) | (refine ⟨i + 1, ?_, by omega, by omega⟩; rw [cmp_no (hno (by assumption) (by assumption))]; refine covers_mk0 rfl rfl ?_ (rowsR_self hnd _) ?_ ?_ <;> simp only [go_sem]; all_goals first | omega | trace_state) | trace_state
     ·obtain rfl : k = i := by omega
      have hok : okC C set k := ⟨hcc, hkl⟩
      have hys := cmp_yes hok
      have hdl : (set.drop k).length = set.length - k := List.length_drop
      have hdg : ∀ j, (set.drop k).getD j default = set.getD (k + j) default := fun j => by
       simp [List.getD_eq_getElem?_getD, List.getElem?_drop]
      repeat' first | ((exfalso; omega)) | refine sw_seq ?_ | refine sw_block ?_ | refine sw_inBlock ?_ | refine sw_skip ?_ | refine sw_go 0 kp19 fun K hK => ?_ | refine sw_goT 0 kp19 9 (id := 9) (by kernel_rfl) fun K hK => ?_ | refine sw_goT 0 kp19 31 (id := 21) (by kernel_rfl) fun K hK => ?_ | refine fun (K : KT) (hK : KOk S 0 _ _ _ K) => ?_ | refine sw_goD kp19 (by kernel_rfl) fun K hK => ?_ | ((first | refine runL_go ?_ | refine runQ_go ?_ | refine sw_ret (ret0 ?_) | refine sw_ret ?_); simp (disch := (refine Om.mk ?_; omega)) only [go_sem, Try.results19]) | (refine hK.nil ?_; clear hK K; simp only [go_sem]) | ((first | refine runG_fork rfl rfl rfl rfl rfl ?_ ?_ | refine runQG_fork rfl rfl rfl rfl rfl ?_ ?_ | refine sw_cond rfl ?_ ?_) <;> intro h <;> try simp (disch := (refine Om.mk ?_; omega)) only [go_sem] at h) | refine hK.skp rfl rfl ?_ | refine sw_exit rfl ?_ | refine sw_loopEnd ?_ | (refine hK.fork rfl rfl rfl ?_ ?_ <;> intro h <;> try simp (disch := (refine Om.mk ?_; omega)) only [go_sem] at h) | (with_reducible refine And.intro (by first | omega | (simp only [lens]; omega)) ?_) | ((with_reducible refine And.intro ?_ ?_); · first | (intro x hx; subst hx; rfl) | exact upR_mem fun _ _ => rfl | exact mapR_mem fun _ _ => rfl | (intro x; refine And.intro ?_ ?_ <;> (intros; subst_vars; rfl))) | fail
      refine sw_tok 21 179000 2 1 rfl (.inl rfl) (by simp [LS.purge, LS.clean, mapA, D.pu, D.pu1, D.tks, D.tksL, gC_pu, rows_pu, gC_tks, rows_tks, tks_mapR]) ?_
      simp only [go_sem, gC_pu, rows_pu]
      refine sw_loop (ι := Nat) (fun j => ⟨186, [(1, .sl .any (set.map (.int .i64))), (5, .ms 26 edges.length), (16, .sl (.own 184000 27 1) (mapR (fun i y => Int64SL (p ++ [i] ++ [0]) y) (cmp C set k))), (18, .int .i64 (set.getD k default)), (111, .sl .any (set.map (.int .i64))), (112, .int .i64 set.length), (113, .int .i64 k), (21, .sl (.own 179000 2 1) ((prtJ C (set.getD k default).toNat (set.drop k) j).map (.int .i64))), (153, .sl .any ((set.drop k).map (.int .i64))), (154, .int .i64 (set.drop k).length), (155, .int .i64 j)], (26, gCells edges.length (natS set)) :: rowsR edges.length (natS set) C, [], [179000, 184000], []⟩) (fun j => j ≤ (set.drop k).length) (fun j => (set.drop k).length - j) 0 (by refine covers_mk0 rfl rfl ?_ (rowsR_self hnd _) ?_ ?_ <;> simp only [go_sem]; all_goals first | rfl | exact ⟨rfl, rfl⟩ | trace_state) (by omega) (fun j hj => ?_)
      have hpl := prtJ_len C (set.getD k default).toNat (set.drop k) j
      by_cases hjl : j < (set.drop k).length
      ·have hsj := hs (k + j) (by omega)
       have hmj := hmk (k + j) (by omega)
       rw [← hdg] at hsj hmj
       have hpy := @prtJ_yes C (set.getD k default).toNat (set.drop k) j hjl
       have hpn := @prtJ_no C (set.getD k default).toNat (set.drop k) j hjl
       repeat' first | ((exfalso; omega)) | ((simp (disch := (refine Om.mk ?_; omega)) only [look_rowsR, if_true]; simp (disch := (refine Om.mk ?_; omega)) only [go_sem])) | refine sw_seq ?_ | refine sw_block ?_ | refine sw_inBlock ?_ | refine sw_skip ?_ | refine sw_go 0 kp19 fun K hK => ?_ | refine sw_goT 0 kp19 9 (id := 9) (by kernel_rfl) fun K hK => ?_ | refine sw_goT 0 kp19 31 (id := 21) (by kernel_rfl) fun K hK => ?_ | refine fun (K : KT) (hK : KOk S 0 _ _ _ K) => ?_ | refine sw_goD kp19 (by kernel_rfl) fun K hK => ?_ | ((first | refine runL_go ?_ | refine runQ_go ?_ | refine sw_ret (ret0 ?_) | refine sw_ret ?_); simp (disch := (refine Om.mk ?_; omega)) only [go_sem, Try.results19]) | (refine hK.nil ?_; clear hK K; simp only [go_sem]) | ((first | refine runG_fork rfl rfl rfl rfl rfl ?_ ?_ | refine runQG_fork rfl rfl rfl rfl rfl ?_ ?_ | refine sw_cond rfl ?_ ?_) <;> intro h <;> try simp (disch := (refine Om.mk ?_; omega)) only [go_sem] at h) | refine hK.skp rfl rfl ?_ | refine sw_exit rfl ?_ | refine sw_loopEnd ?_ | (refine hK.fork rfl rfl rfl ?_ ?_ <;> intro h <;> try simp (disch := (refine Om.mk ?_; omega)) only [go_sem] at h) | (with_reducible refine And.intro (by first | omega | (simp only [lens]; omega)) ?_) | ((with_reducible refine And.intro ?_ ?_); · first | (intro x hx; subst hx; rfl) | exact upR_mem fun _ _ => rfl | exact mapR_mem fun _ _ => rfl | (intro x; refine And.intro ?_ ?_ <;> (intros; subst_vars; rfl))) | fail
       all_goals first | (refine ⟨j + 1, ?_, by omega, by omega⟩; rw [hpy (by assumption) (by assumption), List.map_append]; refine covers_mk0 rfl rfl ?_ (rowsR_self hnd _) ?_ ?_ <;> simp only [go_sem]; all_goals first | omega | (simp; done) | exact ⟨rfl, by omega⟩ | trace_state) | (refine ⟨j + 1, ?_, by omega, by omega⟩; rw [hpn (by first | exact .inl (by assumption) | exact .inr (by assumption))]; refine covers_mk0 rfl rfl ?_ (rowsR_self hnd _) ?_ ?_ <;> simp only [go_sem]; all_goals first | omega | trace_state) | trace_state
      ·obtain rfl : j = (set.drop k).length := by omega
       rw [hdl]
       refine sw_lab 21 (p ++ [(cmp C set k).length] ++ [0]) rfl (by simp) (by simp) ?_
       simp only [go_sem]
       repeat' first | ((exfalso; omega)) | refine sw_seq ?_ | refine sw_block ?_ | refine sw_inBlock ?_ | refine sw_skip ?_ | refine sw_go 0 kp19 fun K hK => ?_ | refine sw_goT 0 kp19 9 (id := 9) (by kernel_rfl) fun K hK => ?_ | refine sw_goT 0 kp19 31 (id := 21) (by kernel_rfl) fun K hK => ?_ | refine fun (K : KT) (hK : KOk S 0 _ _ _ K) => ?_ | refine sw_goD kp19 (by kernel_rfl) fun K hK => ?_ | ((first | refine runL_go ?_ | refine runQ_go ?_ | refine sw_ret (ret0 ?_) | refine sw_ret ?_); simp (disch := (refine Om.mk ?_; omega)) only [go_sem, Try.results19]) | (refine hK.nil ?_; clear hK K; simp only [go_sem]) | ((first | refine runG_fork rfl rfl rfl rfl rfl ?_ ?_ | refine runQG_fork rfl rfl rfl rfl rfl ?_ ?_ | refine sw_cond rfl ?_ ?_) <;> intro h <;> try simp (disch := (refine Om.mk ?_; omega)) only [go_sem] at h) | refine hK.skp rfl rfl ?_ | refine sw_exit rfl ?_ | refine sw_loopEnd ?_ | (refine hK.fork rfl rfl rfl ?_ ?_ <;> intro h <;> try simp (disch := (refine Om.mk ?_; omega)) only [go_sem] at h) | (with_reducible refine And.intro (by first | omega | (simp only [lens]; omega)) ?_) | ((with_reducible refine And.intro ?_ ?_); · first | (intro x hx; subst hx; rfl) | exact upR_mem fun _ _ => rfl | exact mapR_mem fun _ _ => rfl | (intro x; refine And.intro ?_ ?_ <;> (intros; subst_vars; rfl))) | fail
       refine ⟨List.mem_filter.2 ⟨by simp, by simp⟩, mapR_memP fun _ _ => rfl, by rw [mapR_length]; omega, by rw [mapR_length]; omega, ?_⟩
       repeat' first | ((exfalso; omega)) | refine sw_seq ?_ | refine sw_block ?_ | refine sw_inBlock ?_ | refine sw_skip ?_ | refine sw_go 0 kp19 fun K hK => ?_ | refine sw_goT 0 kp19 9 (id := 9) (by kernel_rfl) fun K hK => ?_ | refine sw_goT 0 kp19 31 (id := 21) (by kernel_rfl) fun K hK => ?_ | refine fun (K : KT) (hK : KOk S 0 _ _ _ K) => ?_ | refine sw_goD kp19 (by kernel_rfl) fun K hK => ?_ | ((first | refine runL_go ?_ | refine runQ_go ?_ | refine sw_ret (ret0 ?_) | refine sw_ret ?_); simp (disch := (refine Om.mk ?_; omega)) only [go_sem, Try.results19]) | (refine hK.nil ?_; clear hK K; simp only [go_sem]) | ((first | refine runG_fork rfl rfl rfl rfl rfl ?_ ?_ | refine runQG_fork rfl rfl rfl rfl rfl ?_ ?_ | refine sw_cond rfl ?_ ?_) <;> intro h <;> try simp (disch := (refine Om.mk ?_; omega)) only [go_sem] at h) | refine hK.skp rfl rfl ?_ | refine sw_exit rfl ?_ | refine sw_loopEnd ?_ | (refine hK.fork rfl rfl rfl ?_ ?_ <;> intro h <;> try simp (disch := (refine Om.mk ?_; omega)) only [go_sem] at h) | (with_reducible refine And.intro (by first | omega | (simp only [lens]; omega)) ?_) | ((with_reducible refine And.intro ?_ ?_); · first | (intro x hx; subst hx; rfl) | exact upR_mem fun _ _ => rfl | exact mapR_mem fun _ _ => rfl | (intro x; refine And.intro ?_ ?_ <;> (intros; subst_vars; rfl))) | fail
       refine ⟨k + 1, ?_, by omega, by omega⟩
       rw [hys, mapR_snocP]
       refine covers_mk0 rfl rfl ?_ (rowsR_self hnd _) ?_ ?_ <;> simp only [go_sem]
       all_goals first | omega | (simp; done) | exact ⟨rfl, by omega⟩ | trace_state
   ·obtain rfl : i = set.length := by omega
    refine sw_lab 16 p rfl (by simp) hp ?_
    simp only [go_sem]
    repeat' first | ((refine sw_label ?_)) | ((exfalso; omega)) | refine sw_seq ?_ | refine sw_block ?_ | refine sw_inBlock ?_ | refine sw_skip ?_ | refine sw_go 0 kp19 fun K hK => ?_ | refine sw_goT 0 kp19 9 (id := 9) (by kernel_rfl) fun K hK => ?_ | refine sw_goT 0 kp19 31 (id := 21) (by kernel_rfl) fun K hK => ?_ | refine fun (K : KT) (hK : KOk S 0 _ _ _ K) => ?_ | refine sw_goD kp19 (by kernel_rfl) fun K hK => ?_ | ((first | refine runL_go ?_ | refine runQ_go ?_ | refine sw_ret (ret0 ?_) | refine sw_ret ?_); simp (disch := (refine Om.mk ?_; omega)) only [go_sem, Try.results19]) | (refine hK.nil ?_; clear hK K; simp only [go_sem]) | ((first | refine runG_fork rfl rfl rfl rfl rfl ?_ ?_ | refine runQG_fork rfl rfl rfl rfl rfl ?_ ?_ | refine sw_cond rfl ?_ ?_) <;> intro h <;> try simp (disch := (refine Om.mk ?_; omega)) only [go_sem] at h) | refine hK.skp rfl rfl ?_ | refine sw_exit rfl ?_ | refine sw_loopEnd ?_ | (refine hK.fork rfl rfl rfl ?_ ?_ <;> intro h <;> try simp (disch := (refine Om.mk ?_; omega)) only [go_sem] at h) | (with_reducible refine And.intro (by first | omega | (simp only [lens]; omega)) ?_) | ((with_reducible refine And.intro ?_ ?_); · first | (intro x hx; subst hx; rfl) | exact upR_mem fun _ _ => rfl | exact mapR_mem fun _ _ => rfl | (intro x; refine And.intro ?_ ?_ <;> (intros; subst_vars; rfl))) | fail
end Go.Proofs.Ytmogobaaophknaa
