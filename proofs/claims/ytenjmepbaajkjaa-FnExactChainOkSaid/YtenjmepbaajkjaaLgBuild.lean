/-
  Lg, part 6: literals of structs and slices.
-/
import Derived.Test.YtenjmepbaajkjaaLgOpsS
namespace Go.Lg
open Go Go.RowKit

def RelArr (G : Ghost) (w : World) (cs : List D) (arr : Array Value) : Prop :=
  arr.size = cs.length ∧ ∀ (j : Nat) d v, cs[j]? = some d → arr[j]? = some v → Rel G w d v

def laid (off : Nat) (cells : Array Value) (l : List (Value × Nat)) : Array Value := l.foldl (fun cs p => cs.setIfInBounds (off + p.2) p.1) cells

theorem laid_spec (off : Nat) : ∀ (l : List Value) (k : Nat) (cells : Array Value), (laid off cells (l.zipIdx k)).size = cells.size ∧
    ∀ i, i < cells.size → (laid off cells (l.zipIdx k))[i]? = if off + k ≤ i ∧ i < off + k + l.length then l[i - (off + k)]? else cells[i]?
  | [], k, cells => ⟨rfl, fun i _ => by rw [if_neg (by simp)]; rfl⟩
  | v :: l, k, cells => by
    obtain ⟨h1, h2⟩ := laid_spec off l (k + 1) (cells.setIfInBounds (off + k) v)
    have e : laid off cells ((v :: l).zipIdx k) = laid off (cells.setIfInBounds (off + k) v) (l.zipIdx (k + 1)) := rfl
    rw [e]
    refine ⟨by rw [h1]; simp, fun i hi => ?_⟩
    rw [h2 i (by simpa using hi)]
    by_cases c1 : off + (k + 1) ≤ i ∧ i < off + (k + 1) + l.length
    · rw [if_pos c1, if_pos (by simp only [List.length_cons]; omega), show i - (off + k) = (i - (off + (k + 1))) + 1 by omega]
      simp
    · rw [if_neg c1]
      by_cases c2 : i = off + k
      · subst c2
        rw [if_pos (by simp only [List.length_cons]; omega)]
        simp [hi]
      · rw [if_neg (by simp only [List.length_cons]; omega), Array.getElem?_setIfInBounds_ne (by omega)]

theorem putCells_get {cs new : List D} {off : Nat} (h : off + new.length ≤ cs.length) (i : Nat) :
    (putCells cs off new)[i]? = if off ≤ i ∧ i < off + new.length then new[i - off]? else cs[i]? := by
  unfold putCells
  have hl : (cs.take off).length = off := by simp; omega
  by_cases h1 : i < off
  · rw [if_neg (by omega), List.append_assoc, List.getElem?_append_left (by omega), List.getElem?_take, if_pos h1]
  · by_cases h2 : i < off + new.length
    · rw [if_pos (by omega), List.append_assoc, List.getElem?_append_right (by omega), hl, List.getElem?_append_left (by omega)]
    · rw [if_neg (by omega), List.getElem?_append_right (by simp; omega), List.getElem?_drop]
      congr 1
      simp
      omega
theorem putCells_length {cs new : List D} {off : Nat} (h : off + new.length ≤ cs.length) : (putCells cs off new).length = cs.length := by
  unfold putCells
  simp
  omega

theorem fold_laid (off : Nat) (v : Value) (cells : Array Value) : v.cells.zipIdx.foldl (fun cs (c, j) => cs.setIfInBounds (off + j) c) cells = laid off cells (v.cells.toList.zipIdx 0) := by
  rw [← Array.foldl_toList]
  simp [laid]

theorem relArr_put {G : Ghost} {w : World} {cs : List D} {arr : Array Value} (h : RelArr G w cs arr) {d : D} {v : Value} (hv : Rel G w d v) {off : Nat} (hl : off + d.cells.length ≤ cs.length) :
    RelArr G w (putCells cs off d.cells) (laid off arr (v.cells.toList.zipIdx 0)) := by
  obtain ⟨h1, h2⟩ := h
  obtain ⟨c1, c2⟩ := hv.cells
  obtain ⟨l1, l2⟩ := laid_spec off v.cells.toList 0 arr
  refine ⟨by rw [l1, putCells_length hl]; exact h1, fun j e u he hu => ?_⟩
  have hj : j < arr.size := by rw [← l1]; exact (Array.getElem?_eq_some_iff.1 hu).1
  rw [l2 j hj] at hu
  rw [putCells_get hl] at he
  have hlen : v.cells.toList.length = d.cells.length := by simpa using c1
  simp only [Nat.add_zero, hlen] at hu
  by_cases hc : off ≤ j ∧ j < off + d.cells.length
  · rw [if_pos hc] at he hu
    exact c2 _ e u he (by simpa using hu)
  · rw [if_neg hc] at he hu
    exact h2 j e u he hu

inductive PRel (G : Ghost) (w : World) : List (Nat × D) → List (Nat × Value) → Prop
  | nil : PRel G w [] []
  | cons {i d v ps vs} (h : Rel G w d v) (hr : PRel G w ps vs) : PRel G w ((i, d) :: ps) ((i, v) :: vs)

theorem zipO_sound {B : Base} {L : LS} {G : Ghost} {a : Act} {w : World} (h : Sim B L G a w) : ∀ {xs : List (Nat × Operand)} {ps : List (Nat × D)}, zipO (evalO L) xs = some ps →
    PRel G w ps (xs.map fun (i, x) => (i, a.eval x))
  | [], ps, he => by
    obtain rfl := (Option.some.inj he).symm
    exact .nil
  | (i, x) :: xs, ps, he => by
    unfold zipO at he
    split at he
    · rename_i d ds h1 h2
      obtain rfl := (Option.some.inj he).symm
      exact .cons (eval_sound h h1) (zipO_sound h h2)
    · cases he

theorem fill_sound {S : Setup} {G : Ghost} {w : World} {fs : List (Nat × TypeId)} {place : Nat → Option (Nat × Nat)}
    (hp : ∀ (i : Nat) p j, fs[i]? = some p → S.tab p.2 = some j → place i = some (p.1, j.size)) : ∀ {ps : List (Nat × D)} {vs : List (Nat × Value)} {cs cs' : List D} {arr : Array Value}, PRel G w ps vs →
    RelArr G w cs arr → buildP S fs cs ps = some cs' → ∃ arr', Instr.fill place arr vs = some arr' ∧ RelArr G w cs' arr' := by
  intro ps vs cs cs' arr h
  induction h generalizing cs arr with
  | nil =>
    intro hr hb
    obtain rfl := (Option.some.inj hb).symm
    exact ⟨arr, rfl, hr⟩
  | @cons i d v ps vs hv hr' ih =>
    intro hr hb
    unfold buildP at hb
    split at hb
    · rename_i p hpi
      split at hb
      · rename_i j hj
        split at hb
        · rename_i hc
          have hcells := hv.cells.1
          obtain ⟨arr', e1, e2⟩ := ih (relArr_put hr hv (off := p.1) (by rw [hc.1]; exact hc.2)) hb
          refine ⟨arr', ?_, e2⟩
          have hcond : (decide (v.cells.size ≠ j.size) || decide (p.1 + v.cells.size > arr.size)) = false := by
            rw [hcells, hc.1, hr.1]
            simp
            exact hc.2
          simp only [Instr.fill, hp i p j hpi hj, fold_laid]
          rw [if_neg (by rw [hcond]; simp)]
          exact e1
        · cases hb
      · cases hb
    · cases hb

theorem relArr_zero {S : Setup} {G : Ghost} {w : World} {t : TypeId} {i : TyI} (hi : S.tab t = some i) : ∃ z, (zeroValue t).run S.P w = .ok z w ∧ RelArr G w (i.zero.map ZK.d) z.cells ∧ z.cells.size = i.size := by
  obtain ⟨inf, h1, _, _, z, h2, h3, _⟩ := (S.ok t i hi).info
  refine ⟨z, by simp [zeroValue, typeInfo, h1, h2], ⟨by rw [h3]; simp, fun j d v hd hv => ?_⟩, by rw [h3]; simp [TyI.size]⟩
  rw [h3] at hv
  simp only [List.getElem?_toArray, List.getElem?_map, Option.map_eq_some_iff] at hd hv
  obtain ⟨k, hk, rfl⟩ := hd
  obtain ⟨k', hk', rfl⟩ := hv
  rw [hk] at hk'
  obtain rfl := Option.some.inj hk'
  cases k <;> first
    | exact .int
    | exact .bool
    | exact .str
    | exact rel_nilslice
    | exact .raw (by intro cs h; cases h)

theorem mapM_get {α β : Type} {f : α → Option β} : ∀ {l : List α} {r : List β}, l.mapM f = some r → ∀ (i : Nat) x, l[i]? = some x → ∃ y, f x = some y ∧ r[i]? = some y
  | [], r, h, i, x, hx => by simp at hx
  | a :: l, r, h, i, x, hx => by
    simp only [List.mapM_cons, Option.bind_eq_bind, Option.pure_def] at h
    cases hf : f a with
    | none => simp [hf] at h
    | some b =>
      cases hr : l.mapM f with
      | none => simp [hf, hr] at h
      | some rest =>
        simp [hf, hr] at h
        subst h
        cases i with
        | zero => simp at hx; subst hx; exact ⟨b, hf, rfl⟩
        | succ i =>
          obtain ⟨y, h1, h2⟩ := mapM_get hr i x (by simpa using hx)
          exact ⟨y, h1, by simpa using h2⟩

theorem buildY_sound {S : Setup} {G : Ghost} {w : World} {t : TypeId} {ps : List (Nat × D)} {vs : Array (Nat × Value)} (hv : PRel G w ps vs.toList) {K : D → Prop} (h : buildY S t ps K) :
    ∃ d v, K d ∧ (Instr.build t vs).run S.P w = .ok v w ∧ Rel G w d v := by
  obtain ⟨i, hi, h⟩ := someK_get h
  split at h
  · rename_i fs hk
    obtain ⟨cs, hb, hK⟩ := someK_get h
    obtain ⟨fields, hu, hfs, places, hpl⟩ := kd_struct (S := S) (t := t) (fs := fs) (by unfold Setup.kd; rw [hi]; simp [hk])
    obtain ⟨z, hz, hrz, _⟩ := relArr_zero (S := S) (G := G) (w := w) hi
    have hp : ∀ (q : Nat) p j, fs[q]? = some p → S.tab p.2 = some j → (places.toArray[q]? : Option (Nat × Nat)) = some (p.1, j.size) := fun q p j hq hj => by
      obtain ⟨fl, hf, ho, hty⟩ := fields_get hfs hq
      obtain ⟨y, h1, h2⟩ := mapM_get hpl q fl (by simpa using hf)
      obtain ⟨inf, k1, k2, _⟩ := (S.ok p.2 j hj).info
      rw [hty, k1] at h1
      simp at h1
      subst h1
      simpa [ho, k2] using h2
    obtain ⟨arr, e1, e2⟩ := fill_sound (S := S) hp hv hrz hb
    refine ⟨_, .agg arr, hK, ?_, ?_⟩
    · refine run_build (P := S.P) w t vs arr ?_
      obtain ⟨inf, k1, _, _, z', k2, _⟩ := (S.ok t i hi).info
      have hzz : z' = z := by
        have : (zeroValue t).run S.P w = .ok z' w := by simp [zeroValue, typeInfo, k1, k2]
        rw [this] at hz
        simpa using hz
      subst hzz
      simp only [Program.built, k1, hu, k2, hpl]
      exact e1
    · have : arr = arr.toList.toArray := by simp
      rw [this]
      exact .agg (by simpa using e2.1) fun j d v hd hv => e2.2 j d v hd (by simpa using hv)
  · rename_i n e hk
    obtain ⟨je, hje, rfl, hK⟩ := someK_get h
    have hvs : vs = #[] := by
      cases vs with
      | mk l =>
        cases l with
        | nil => rfl
        | cons _ _ => cases hv
    subst hvs
    have hu := kd_array (S := S) (t := t) (n := n) (e := e) (by unfold Setup.kd; rw [hi]; simp [hk])
    obtain ⟨z, hz, hrz, _⟩ := relArr_zero (S := S) (G := G) (w := w) hi
    obtain ⟨inf, k1, _, _, z', k2, _⟩ := (S.ok t i hi).info
    have hzz : z' = z := by
      have : (zeroValue t).run S.P w = .ok z' w := by simp [zeroValue, typeInfo, k1, k2]
      rw [this] at hz
      simpa using hz
    subst hzz
    obtain ⟨ie, hie, _⟩ := (S.ok e je hje).info
    refine ⟨_, .agg z'.cells, hK, ?_, ?_⟩
    · refine run_build (P := S.P) w t #[] z'.cells ?_
      simp [Program.built, k1, hu, k2, hie, Instr.fill]
    · have : z'.cells = z'.cells.toList.toArray := by simp
      rw [this]
      exact .agg (by simpa using hrz.1) fun j d v hd hv => hrz.2 j d v hd (by simpa using hv)
  · exact h.elim

/-- A slice literal whose places are all written, from the k-th on. -/
theorem fill_dense {G : Ghost} {w : World} {s : Nat} : ∀ {ps : List (Nat × D)} {vs : List (Nat × Value)} {k n : Nat} {dn : List D} {arr : Array Value}, PRel G w ps vs → ps.map (·.1) = (List.range' k (n - k)) → k ≤ n →
    (∀ p ∈ ps, p.2.cells.length = s) → dn.length = k → (∀ x ∈ dn, x.cells.length = s) → arr.size = n * s → (∀ (j : Nat) d v, (flat dn)[j]? = some d → arr[j]? = some v → Rel G w d v) →
    ∃ arr', Instr.fill (fun i => some (i * s, s)) arr vs = some arr' ∧ RelArr G w (flat (dn ++ ps.map (·.2))) arr' := by
  intro ps vs k n dn arr h
  induction h generalizing k dn arr with
  | nil =>
    intro hi hkn hs hd hds ha hr
    have hk : n = k := by
      have := congrArg List.length hi
      simp at this
      omega
    subst hk
    refine ⟨arr, rfl, ?_, by simpa using hr⟩
    simp only [List.map_nil, List.append_nil]
    rw [flat_length hds, hd]; exact ha
  | @cons i d v ps vs hv hr' ih =>
    intro hi hkn hs hd hds ha hr
    have hlt : k < n := by
      have := congrArg List.length hi
      simp at this
      omega
    rw [show n - k = (n - (k + 1)) + 1 by omega, List.range'_succ, List.map_cons] at hi
    simp only [List.cons.injEq] at hi
    obtain ⟨hik, hi⟩ := hi
    have hik : i = k := hik
    subst hik
    have h0 := hs (i, d) List.mem_cons_self
    have h0 : d.cells.length = s := h0
    have hcs : v.cells.size = s := by rw [hv.cells.1]; exact h0
    obtain ⟨l1, l2⟩ := laid_spec (i * s) v.cells.toList 0 arr
    have hms : i * s + s ≤ n * s := by
      have := Nat.mul_le_mul_right s (show i + 1 ≤ n by omega)
      rwa [Nat.add_mul, Nat.one_mul] at this
    obtain ⟨arr', e1, e2⟩ := ih (k := i + 1) (dn := dn ++ [d]) (arr := laid (i * s) arr (v.cells.toList.zipIdx 0)) hi (by omega) (fun p hp => hs p (List.mem_cons_of_mem _ hp)) (by simp [hd])
      (fun x hx => by
        rcases List.mem_append.1 hx with hx | hx
        · exact hds x hx
        · obtain rfl := List.mem_singleton.1 hx; exact h0)
      (by rw [l1]; exact ha) (fun j e u he hu => by
        have hj : j < arr.size := by rw [← l1]; exact (Array.getElem?_eq_some_iff.1 hu).1
        rw [l2 j hj] at hu
        have hvl : v.cells.toList.length = s := by simpa using hcs
        simp only [Nat.add_zero, hvl] at hu
        have hfl : (flat dn).length = i * s := by rw [flat_length hds, hd]
        rw [flat_append] at he
        by_cases hc : j < i * s
        · rw [if_neg (by omega)] at hu
          rw [List.getElem?_append_left (by omega)] at he
          exact hr j e u he hu
        · rw [List.getElem?_append_right (by omega), hfl] at he
          have hfd : flat [d] = d.cells := by simp [flat]
          rw [hfd] at he
          have hlt' := (List.getElem?_eq_some_iff.1 he).1
          rw [if_pos (by omega)] at hu
          exact hv.cells.2 _ e u he (by simpa using hu))
    refine ⟨arr', ?_, by simpa [List.append_assoc] using e2⟩
    have hcond : (decide (v.cells.size ≠ s) || decide (i * s + v.cells.size > arr.size)) = false := by
      rw [hcs, ha]
      simp
      exact hms
    simp only [Instr.fill, fold_laid]
    rw [if_neg (by rw [hcond]; simp)]
    exact e1


theorem strip1_le (d : D) : D.le d (strip1 d) := by
  cases d with
  | sl tk xs => cases tk <;> first | exact .any | exact .refl _
  | _ => exact .refl _
theorem strip_le (d : D) : D.le d d.strip := by
  cases d with
  | agg cs =>
    refine .agg (by simp) fun j c d hc hd => ?_
    simp only [List.getElem?_map, hc, Option.map_some, Option.some.injEq] at hd
    subst hd; exact strip1_le c
  | sl tk xs => exact strip1_le _
  | _ => exact .refl _
theorem strip_cells_length (d : D) : d.strip.cells.length = d.cells.length := by
  cases d with
  | agg cs => simp [D.strip, D.cells]
  | sl tk xs => cases tk <;> rfl
  | _ => rfl

theorem PRel.strip {G : Ghost} {w : World} {ps : List (Nat × D)} {vs : List (Nat × Value)} (h : PRel G w ps vs) : PRel G w (ps.map fun p => (p.1, p.2.strip)) vs := by
  induction h with
  | nil => exact .nil
  | @cons i d v ps vs hv hr ih => exact .cons (hv.le (strip_le d)) ih

theorem size_zeroRow (z : Array Value) (n : Nat) : ((Array.range n).map (z[· % z.size]!)).size = n := by simp

end Go.Lg
