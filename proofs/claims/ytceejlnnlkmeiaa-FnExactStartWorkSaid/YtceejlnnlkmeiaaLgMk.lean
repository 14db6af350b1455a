/-
  Lg, part 32: marks: the int cells that a value reaches, as a list of places; writing them one behind the other; the readings that stand.
-/
import Derived.Test.YtceejlnnlkmeiaaLgGrow
namespace Go.Lg
open Go Go.RowKit

/-! A list shape: what lies in the cells of an element, one behind the other: a marked int, something that is not marked, a list. -/
mutual
inductive Sh where
  | slc (fs : Fs)
inductive Fs where
  | nil
  | cell (r : Fs)
  | skip (r : Fs)
  | sub (s : Sh) (r : Fs)
end
def Fs.len : Fs → Nat
  | .nil => 0
  | .cell r => r.len + 1
  | .skip r => r.len + 1
  | .sub _ r => r.len + 1

def cellAt (w : World) (b o : Nat) : Option Value := w.cell? ⟨b, o, none⟩

/-! 'v' is a list of this shape; 'as': the places of its int cells, in the order of the marks. -/
mutual
def Lv (lim : Nat → Nat) (w : World) : Sh → Value → List (Nat × Nat) → Prop
  | .slc fs, v, as => ∃ A n c b o, v = .slice A n c ∧ n ≤ maxLen ∧ (n = 0 ∨ A = some ⟨b, o, none⟩) ∧ ∃ ass : List (List (Nat × Nat)), ass.length = n ∧ as = ass.flatten ∧ ∀ i l, ass[i]? = some l → LvF lim w fs b (o + i * fs.len) l
def LvF (lim : Nat → Nat) (w : World) : Fs → Nat → Nat → List (Nat × Nat) → Prop
  | .nil, _, _, as => as = []
  | .cell r, b, o, as => ∃ l, as = (b, o) :: l ∧ o < lim b ∧ (∃ m, cellAt w b o = some (.int .i64 m)) ∧ LvF lim w r b (o + 1) l
  | .skip r, b, o, as => LvF lim w r b (o + 1) as
  | .sub s r, b, o, as => ∃ v l1 l2, as = l1 ++ l2 ∧ o < lim b ∧ cellAt w b o = some v ∧ Lv lim w s v l1 ∧ LvF lim w r b (o + 1) l2
end
/-- .. of a struct that is no memory. -/
def LvA (lim : Nat → Nat) (w : World) : Fs → List Value → List (Nat × Nat) → Prop
  | .nil, _, as => as = []
  | .cell _, _, _ => False
  | .skip r, vs, as => LvA lim w r vs.tail as
  | .sub s r, vs, as => ∃ v l1 l2, as = l1 ++ l2 ∧ vs.head? = some v ∧ Lv lim w s v l1 ∧ LvA lim w r vs.tail l2

/-- What may change: an int for an int. -/
def IntW (lim lim' : Nat → Nat) (w w' : World) : Prop := ∀ b o v, o < lim b → cellAt w b o = some v → o < lim' b ∧ (cellAt w' b o = some v ∨ ∃ m m', v = .int .i64 m ∧ cellAt w' b o = some (.int .i64 m'))

theorem Lv.slice {lim : Nat → Nat} {w : World} : ∀ {s : Sh} {v as}, Lv lim w s v as → ∃ A n c, v = .slice A n c
  | .slc _, _, _, h => by unfold Lv at h; obtain ⟨A, n, c, _, _, h, _⟩ := h; exact ⟨A, n, c, h⟩

mutual
theorem Lv.mono {lim lim' : Nat → Nat} {w w' : World} (hw : IntW lim lim' w w') : ∀ (s : Sh) (v : Value) (as : List (Nat × Nat)), Lv lim w s v as → Lv lim' w' s v as
  | .slc fs, v, as, h => by
    unfold Lv at h ⊢
    obtain ⟨A, n, c, b, o, h1, h2, h3, ass, h4, h5, h6⟩ := h
    exact ⟨A, n, c, b, o, h1, h2, h3, ass, h4, h5, fun i l hi => LvF.mono hw fs b _ l (h6 i l hi)⟩
theorem LvF.mono {lim lim' : Nat → Nat} {w w' : World} (hw : IntW lim lim' w w') : ∀ (fs : Fs) (b o : Nat) (as : List (Nat × Nat)), LvF lim w fs b o as → LvF lim' w' fs b o as
  | .nil, _, _, as, h => by unfold LvF at h ⊢; exact h
  | .cell r, b, o, as, h => by
    unfold LvF at h ⊢
    obtain ⟨l, h1, h2, ⟨m, h3⟩, h4⟩ := h
    obtain ⟨q1, q2⟩ := hw b _ _ h2 h3
    refine ⟨l, h1, q1, ?_, LvF.mono hw r b _ l h4⟩
    rcases q2 with q2 | ⟨_, m', _, q2⟩
    · exact ⟨m, q2⟩
    · exact ⟨m', q2⟩
  | .skip r, b, o, as, h => by
    unfold LvF at h ⊢
    exact LvF.mono hw r b _ as h
  | .sub s r, b, o, as, h => by
    unfold LvF at h ⊢
    obtain ⟨v, l1, l2, h1, h2, h3, h4, h5⟩ := h
    obtain ⟨q1, q2⟩ := hw b _ _ h2 h3
    refine ⟨v, l1, l2, h1, q1, ?_, Lv.mono hw s v l1 h4, LvF.mono hw r b _ l2 h5⟩
    rcases q2 with q2 | ⟨m, _, q2, _⟩
    · exact q2
    · obtain ⟨A, n, c, e⟩ := h4.slice
      rw [e] at q2
      cases q2
end
theorem LvA.mono {lim lim' : Nat → Nat} {w w' : World} (hw : IntW lim lim' w w') : ∀ (fs : Fs) (vs : List Value) (as : List (Nat × Nat)), LvA lim w fs vs as → LvA lim' w' fs vs as
  | .nil, _, as, h => by unfold LvA at h ⊢; exact h
  | .cell _, _, _, h => by unfold LvA at h; exact h.elim
  | .skip r, vs, as, h => by
    unfold LvA at h ⊢
    exact LvA.mono hw r _ as h
  | .sub s r, vs, as, h => by
    unfold LvA at h ⊢
    obtain ⟨v, l1, l2, h1, h2, h3, h4⟩ := h
    exact ⟨v, l1, l2, h1, h2, Lv.mono hw s v l1 h3, LvA.mono hw r _ l2 h4⟩

mutual
theorem Lv.ints {lim : Nat → Nat} {w : World} : ∀ (s : Sh) (v : Value) (as : List (Nat × Nat)), Lv lim w s v as → ∀ p ∈ as, p.2 < lim p.1 ∧ ∃ m, cellAt w p.1 p.2 = some (.int .i64 m)
  | .slc fs, v, as, h => by
    unfold Lv at h
    obtain ⟨A, n, c, b, o, h1, h2, h3, ass, h4, h5, h6⟩ := h
    intro p hp
    rw [h5, List.mem_flatten] at hp
    obtain ⟨l, hl, hp⟩ := hp
    obtain ⟨i, hi⟩ := List.getElem?_of_mem hl
    exact LvF.ints fs b _ l (h6 i l hi) p hp
theorem LvF.ints {lim : Nat → Nat} {w : World} : ∀ (fs : Fs) (b o : Nat) (as : List (Nat × Nat)), LvF lim w fs b o as → ∀ p ∈ as, p.2 < lim p.1 ∧ ∃ m, cellAt w p.1 p.2 = some (.int .i64 m)
  | .nil, _, _, as, h => by unfold LvF at h; subst h; simp
  | .cell r, b, o, as, h => by
    unfold LvF at h
    obtain ⟨l, h1, h2, h3, h4⟩ := h
    subst h1
    intro p hp
    rcases List.mem_cons.1 hp with rfl | hp
    · exact ⟨h2, h3⟩
    · exact LvF.ints r b _ l h4 p hp
  | .skip r, b, o, as, h => by
    unfold LvF at h
    exact LvF.ints r b _ as h
  | .sub s r, b, o, as, h => by
    unfold LvF at h
    obtain ⟨v, l1, l2, h1, h2, h3, h4, h5⟩ := h
    subst h1
    intro p hp
    rcases List.mem_append.1 hp with hp | hp
    · exact Lv.ints s v l1 h4 p hp
    · exact LvF.ints r b _ l2 h5 p hp
end
theorem LvA.ints {lim : Nat → Nat} {w : World} : ∀ (fs : Fs) (vs : List Value) (as : List (Nat × Nat)), LvA lim w fs vs as → ∀ p ∈ as, p.2 < lim p.1 ∧ ∃ m, cellAt w p.1 p.2 = some (.int .i64 m)
  | .nil, _, as, h => by unfold LvA at h; subst h; simp
  | .cell _, _, _, h => by unfold LvA at h; exact h.elim
  | .skip r, vs, as, h => by
    unfold LvA at h
    exact LvA.ints r _ as h
  | .sub s r, vs, as, h => by
    unfold LvA at h
    obtain ⟨v, l1, l2, h1, h2, h3, h4⟩ := h
    subst h1
    intro p hp
    rcases List.mem_append.1 hp with hp | hp
    · exact Lv.ints s v l1 h3 p hp
    · exact LvA.ints r _ l2 h4 p hp

/-! Writing. -/
/-- The place may be written. -/
def Wr (w : World) (p : Nat × Nat) : Prop := ∃ vs e, w.heap[p.1]? = some (.cells vs e (0, 0)) ∧ p.2 < vs.size
def wr (w : World) (p : Nat × Nat) (n : Int) : World := match w.heap[p.1]? with
  | some (.cells vs _ _) => w.setRow p.1 (vs.toList.take p.2 ++ [Value.int .i64 n] ++ vs.toList.drop (p.2 + 1)).toArray
  | _ => w
def wrs (w : World) : List (Nat × Nat) → Int → World
  | [], _ => w
  | p :: ps, k => wrs (wr w p k) ps (k + 1)

theorem wr_eq {w : World} {p : Nat × Nat} {n : Int} {vs : Array Value} {e : TypeId} {f : Nat × Nat} (h : w.heap[p.1]? = some (.cells vs e f)) : wr w p n = w.setRow p.1 (vs.toList.take p.2 ++ [Value.int .i64 n] ++ vs.toList.drop (p.2 + 1)).toArray := by
  unfold wr; rw [h]
theorem wr_other {w : World} {p : Nat × Nat} {n : Int} {b : Nat} (h : b ≠ p.1) : (wr w p n).heap[b]? = w.heap[b]? := by
  unfold wr
  split
  · exact setRow_other w p.1 b _ h
  · rfl
theorem wr_size {w : World} {p : Nat × Nat} {n : Int} : (wr w p n).heap.size = w.heap.size := by
  unfold wr
  split
  · simp [World.setRow]
  · rfl
theorem wr_rest {w : World} {p : Nat × Nat} {n : Int} : (wr w p n).os = w.os ∧ (wr w p n).tape = w.tape ∧ (wr w p n).output = w.output := by
  unfold wr
  split <;> exact ⟨rfl, rfl, rfl⟩
theorem wr_cells {w : World} {p : Nat × Nat} {n : Int} (h : Wr w p) : ∀ (b : Nat) (vs : Array Value) (e : TypeId), w.heap[b]? = some (.cells vs e (0, 0)) → ∃ vs', (wr w p n).heap[b]? = some (.cells vs' e (0, 0)) ∧ vs'.size = vs.size := fun b vs e hb => by
  by_cases hp : b = p.1
  · subst hp
    obtain ⟨vs0, e0, h1, h2⟩ := h
    rw [hb] at h1
    obtain ⟨rfl, rfl⟩ : vs = vs0 ∧ e = e0 := by simpa using h1
    refine ⟨_, by rw [wr_eq hb]; exact setRow_heap w _ _ _ _ _ hb, ?_⟩
    simp
    omega
  · exact ⟨vs, by rw [wr_other hp]; exact hb, rfl⟩
theorem Wr.wr {w : World} {p q : Nat × Nat} {n : Int} (h : Wr w p) (hq : Wr w q) : Wr (Lg.wr w p n) q := by
  obtain ⟨vs, e, h1, h2⟩ := hq
  obtain ⟨vs', h3, h4⟩ := wr_cells (n := n) h _ vs e h1
  exact ⟨vs', e, h3, by omega⟩
theorem cellAt_wr {w : World} {p : Nat × Nat} {n : Int} (h : Wr w p) (b o : Nat) : cellAt (wr w p n) b o = if (b, o) = p then some (.int .i64 n) else cellAt w b o := by
  obtain ⟨vs, e, h1, h2⟩ := h
  obtain ⟨pb, po⟩ := p
  simp only at h1 h2
  by_cases hb : b = pb
  · subst hb
    simp only [cellAt]
    rw [wr_eq h1, cell_setRow_same w _ _ vs _ _ _ h1]
    simp only [World.cell?, h1]
    simp only [List.getElem?_toArray, Prod.mk.injEq, true_and, Option.isSome_none, Bool.false_eq_true, if_false]
    have hlen : (vs.toList.take po).length = po := by simp; omega
    by_cases c1 : o < po
    · rw [if_neg (by omega), List.append_assoc, List.getElem?_append_left (by omega), List.getElem?_take, if_pos c1]
      simp
    · by_cases c2 : o = po
      · subst c2
        rw [if_pos rfl, List.append_assoc, List.getElem?_append_right (by omega), hlen, List.getElem?_append_left (by simp)]
        simp
      · rw [if_neg c2, List.getElem?_append_right (by simp; omega), List.getElem?_drop]
        simp only [List.length_append, hlen, List.length_singleton]
        rw [show po + 1 + (o - (po + 1)) = o by omega]
        simp
  · rw [if_neg (by simp [hb])]
    simp only [cellAt]
    exact cell_of_heap (wr_other hb)

theorem wrs_append (w : World) (l1 l2 : List (Nat × Nat)) (k : Int) : wrs w (l1 ++ l2) k = wrs (wrs w l1 k) l2 (k + l1.length) := by
  induction l1 generalizing w k with
  | nil => simp [wrs]
  | cons p ps ih =>
    simp only [List.cons_append, wrs, List.length_cons]
    rw [ih, show k + 1 + (ps.length : Int) = k + ((ps.length + 1 : Nat) : Int) by omega]
theorem wrs_size {l : List (Nat × Nat)} : ∀ {w : World} {k : Int}, (wrs w l k).heap.size = w.heap.size := by
  induction l with
  | nil => intro w k; rfl
  | cons p ps ih => intro w k; simp only [wrs]; rw [ih, wr_size]
theorem wrs_rest {l : List (Nat × Nat)} : ∀ {w : World} {k : Int}, (wrs w l k).os = w.os ∧ (wrs w l k).tape = w.tape ∧ (wrs w l k).output = w.output := by
  induction l with
  | nil => intro w k; exact ⟨rfl, rfl, rfl⟩
  | cons p ps ih =>
    intro w k
    simp only [wrs]
    obtain ⟨h1, h2, h3⟩ := ih (w := wr w p k) (k := k + 1)
    obtain ⟨q1, q2, q3⟩ := wr_rest (w := w) (p := p) (n := k)
    exact ⟨h1.trans q1, h2.trans q2, h3.trans q3⟩
theorem wrs_other {l : List (Nat × Nat)} {b : Nat} : ∀ {w : World} {k : Int}, (∀ p ∈ l, p.1 ≠ b) → (wrs w l k).heap[b]? = w.heap[b]? := by
  induction l with
  | nil => intro w k _; rfl
  | cons p ps ih =>
    intro w k h
    simp only [wrs]
    rw [ih fun q hq => h q (List.mem_cons_of_mem _ hq), wr_other (Ne.symm (h p List.mem_cons_self))]
theorem wrs_Wr {l : List (Nat × Nat)} : ∀ {w : World} {k : Int}, (∀ p ∈ l, Wr w p) → ∀ q, Wr w q → Wr (wrs w l k) q := by
  induction l with
  | nil => intro w k _ q hq; exact hq
  | cons p ps ih =>
    intro w k h q hq
    have hp := h p List.mem_cons_self
    exact ih (fun r hr => hp.wr (h r (List.mem_cons_of_mem _ hr))) q (hp.wr hq)
theorem wrs_cells {l : List (Nat × Nat)} : ∀ {w : World} {k : Int}, (∀ p ∈ l, Wr w p) → ∀ (b : Nat) (vs : Array Value) (e : TypeId), w.heap[b]? = some (.cells vs e (0, 0)) → ∃ vs', (wrs w l k).heap[b]? = some (.cells vs' e (0, 0)) ∧ vs'.size = vs.size := by
  induction l with
  | nil => intro w k _ b vs e h; exact ⟨vs, h, rfl⟩
  | cons p ps ih =>
    intro w k h b vs e hb
    have hp := h p List.mem_cons_self
    obtain ⟨vs1, h1, h2⟩ := wr_cells (n := k) hp b vs e hb
    obtain ⟨vs2, h3, h4⟩ := ih (k := k + 1) (fun r hr => hp.wr (h r (List.mem_cons_of_mem _ hr))) b vs1 e h1
    exact ⟨vs2, h3, by omega⟩
theorem wrs_off {l : List (Nat × Nat)} {b o : Nat} : ∀ {w : World} {k : Int}, (∀ p ∈ l, Wr w p) → (b, o) ∉ l → cellAt (wrs w l k) b o = cellAt w b o := by
  induction l with
  | nil => intro w k _ _; rfl
  | cons p ps ih =>
    intro w k h hn
    have hp := h p List.mem_cons_self
    simp only [wrs]
    rw [ih (fun r hr => hp.wr (h r (List.mem_cons_of_mem _ hr))) (fun hm => hn (List.mem_cons_of_mem _ hm)), cellAt_wr hp, if_neg (fun e : (b, o) = p => hn (e ▸ List.mem_cons_self))]
theorem wrs_at {l : List (Nat × Nat)} : ∀ {w : World} {k : Int}, (∀ p ∈ l, Wr w p) → l.Nodup → ∀ (j : Nat) (p : Nat × Nat), l[j]? = some p → cellAt (wrs w l k) p.1 p.2 = some (.int .i64 (k + j)) := by
  induction l with
  | nil => intro w k _ _ j p h; simp at h
  | cons q ps ih =>
    intro w k h hn j p hj
    have hq := h q List.mem_cons_self
    obtain ⟨hn1, hn2⟩ := List.nodup_cons.1 hn
    simp only [wrs]
    cases j with
    | zero =>
      obtain rfl : q = p := by simpa using hj
      rw [wrs_off (fun r hr => hq.wr (h r (List.mem_cons_of_mem _ hr))) hn1, cellAt_wr hq, if_pos rfl]
      simp
    | succ j =>
      rw [ih (fun r hr => hq.wr (h r (List.mem_cons_of_mem _ hr))) hn2 j p (by simpa using hj)]
      congr 2
      omega
/-- Writes put ints for ints. -/
theorem wr_intW {lim : Nat → Nat} {w : World} {p : Nat × Nat} {n : Int} (h : Wr w p) (hi : ∃ m, cellAt w p.1 p.2 = some (.int .i64 m)) : IntW lim lim w (wr w p n) := fun b o v ho hv => by
  refine ⟨ho, ?_⟩
  rw [cellAt_wr h]
  split
  · rename_i e
    subst e
    obtain ⟨m, hm⟩ := hi
    rw [hv] at hm
    exact .inr ⟨m, n, Option.some.inj hm, rfl⟩
  · exact .inl hv
theorem wrs_intW {lim : Nat → Nat} {l : List (Nat × Nat)} : ∀ {w : World} {k : Int}, (∀ p ∈ l, Wr w p) → (∀ p ∈ l, ∃ m, cellAt w p.1 p.2 = some (.int .i64 m)) → IntW lim lim w (wrs w l k) := by
  induction l with
  | nil => intro w k _ _ b o v ho hv; exact ⟨ho, .inl hv⟩
  | cons p ps ih =>
    intro w k h hi b o v ho hv
    have hp := h p List.mem_cons_self
    have s1 := wr_intW (lim := lim) (n := k) hp (hi p List.mem_cons_self)
    have hi' : ∀ q ∈ ps, ∃ m, cellAt (wr w p k) q.1 q.2 = some (.int .i64 m) := fun q hq => by
      rw [cellAt_wr hp]
      split
      · exact ⟨k, rfl⟩
      · exact hi q (List.mem_cons_of_mem _ hq)
    have s2 := ih (k := k + 1) (fun r hr => hp.wr (h r (List.mem_cons_of_mem _ hr))) hi'
    simp only [wrs]
    obtain ⟨_, q⟩ := s1 b o v ho hv
    refine ⟨ho, ?_⟩
    rcases q with q | ⟨m, m', e1, e2⟩
    · exact (s2 b o v ho q).2
    · subst e1
      rcases (s2 b o _ ho e2).2 with q | ⟨_, m2, _, q⟩
      · exact .inr ⟨m, m', rfl, q⟩
      · exact .inr ⟨m, m2, rfl, q⟩
end Go.Lg
