/-
  Lg, part 32: marks: the int cells that a value reaches, as a list of places; writing them one behind the other; the readings that stand.
-/
import Derived.Test.YtenjmepbaajkjaaLgGrow
namespace Go.Lg
open Go Go.RowKit

/-! A list shape: what lies in the cells of an element, one behind the other: a marked int, something that is not marked, a list. -/
mutual
inductive Sh where
  | slc (fs : Fs)
inductive Fs where
  | nil
  | cell (r : Fs)
  | flag (r : Fs)
  | skip (r : Fs)
  | sub (s : Sh) (r : Fs)
end
def Fs.len : Fs → Nat
  | .nil => 0
  | .cell r => r.len + 1
  | .flag r => r.len + 1
  | .skip r => r.len + 1
  | .sub _ r => r.len + 1

def cellAt (w : World) (b o : Nat) : Option Value := w.cell? ⟨b, o, none⟩
/-- A marked cell: an int, or a bool. -/
def Mkd (v : Value) : Prop := (∃ m, v = .int .i64 m) ∨ ∃ c, v = .bool c
/-- What mark n is, written over v. -/
def mkV : Value → Int → Value
  | .bool _, n => .bool (n.tmod 3 == 0)
  | _, n => .int .i64 n
def MkC (w : World) (p : Nat × Nat) : Prop := ∃ v, Mkd v ∧ cellAt w p.1 p.2 = some v
/-- Cell p bears mark n. -/
def HvC (w : World) (p : Nat × Nat) (n : Int) : Prop := ∃ v, Mkd v ∧ cellAt w p.1 p.2 = some (mkV v n)
theorem mkd_mkV {v : Value} (n : Int) (h : Mkd v) : Mkd (mkV v n) := by
  rcases h with ⟨m, rfl⟩ | ⟨c, rfl⟩
  · exact .inl ⟨n, rfl⟩
  · exact .inr ⟨_, rfl⟩
theorem mkV_mkV {v : Value} (n m : Int) (h : Mkd v) : mkV (mkV v n) m = mkV v m := by
  rcases h with ⟨m, rfl⟩ | ⟨c, rfl⟩ <;> rfl
theorem HvC.mkc {w : World} {p : Nat × Nat} {n : Int} (h : HvC w p n) : MkC w p := by
  obtain ⟨v, h1, h2⟩ := h
  exact ⟨_, mkd_mkV n h1, h2⟩
theorem MkC.int {w : World} {b o : Nat} {m : Int} (h : cellAt w b o = some (.int .i64 m)) : MkC w (b, o) := ⟨_, .inl ⟨m, rfl⟩, h⟩
theorem MkC.bool {w : World} {b o : Nat} {c : Bool} (h : cellAt w b o = some (.bool c)) : MkC w (b, o) := ⟨_, .inr ⟨c, rfl⟩, h⟩
theorem HvC.int {w : World} {p : Nat × Nat} {n m : Int} (h : HvC w p n) (hm : cellAt w p.1 p.2 = some (.int .i64 m)) : cellAt w p.1 p.2 = some (.int .i64 n) := by
  obtain ⟨v, h1, h2⟩ := h
  rw [h2] at hm ⊢
  rcases h1 with ⟨m', rfl⟩ | ⟨c, rfl⟩
  · rfl
  · simp [mkV] at hm
theorem HvC.bool {w : World} {p : Nat × Nat} {n : Int} {c : Bool} (h : HvC w p n) (hm : cellAt w p.1 p.2 = some (.bool c)) : cellAt w p.1 p.2 = some (.bool (n.tmod 3 == 0)) := by
  obtain ⟨v, h1, h2⟩ := h
  rw [h2] at hm ⊢
  rcases h1 with ⟨m', rfl⟩ | ⟨c, rfl⟩
  · simp [mkV] at hm
  · rfl

/-! 'v' is a list of this shape; 'as': the places of its int cells, in the order of the marks. -/
mutual
def Lv (lim : Nat → Nat) (w : World) : Sh → Value → List (Nat × Nat) → Prop
  | .slc fs, v, as => ∃ A n c b o, v = .slice A n c ∧ n ≤ maxLen ∧ (n = 0 ∨ A = some ⟨b, o, none⟩) ∧ ∃ ass : List (List (Nat × Nat)), ass.length = n ∧ as = ass.flatten ∧ ∀ i l, ass[i]? = some l → LvF lim w fs b (o + i * fs.len) l
def LvF (lim : Nat → Nat) (w : World) : Fs → Nat → Nat → List (Nat × Nat) → Prop
  | .nil, _, _, as => as = []
  | .cell r, b, o, as => ∃ l, as = (b, o) :: l ∧ o < lim b ∧ (∃ m, cellAt w b o = some (.int .i64 m)) ∧ LvF lim w r b (o + 1) l
  | .flag r, b, o, as => ∃ l, as = (b, o) :: l ∧ o < lim b ∧ (∃ c, cellAt w b o = some (.bool c)) ∧ LvF lim w r b (o + 1) l
  | .skip r, b, o, as => LvF lim w r b (o + 1) as
  | .sub s r, b, o, as => ∃ v l1 l2, as = l1 ++ l2 ∧ o < lim b ∧ cellAt w b o = some v ∧ Lv lim w s v l1 ∧ LvF lim w r b (o + 1) l2
end
/-- .. of a struct that is no memory. -/
def LvA (lim : Nat → Nat) (w : World) : Fs → List Value → List (Nat × Nat) → Prop
  | .nil, _, as => as = []
  | .cell _, _, _ => False
  | .flag _, _, _ => False
  | .skip r, vs, as => LvA lim w r vs.tail as
  | .sub s r, vs, as => ∃ v l1 l2, as = l1 ++ l2 ∧ vs.head? = some v ∧ Lv lim w s v l1 ∧ LvA lim w r vs.tail l2

/-- What may change: a mark for a marked cell. -/
def IntW (lim lim' : Nat → Nat) (w w' : World) : Prop := ∀ b o v, o < lim b → cellAt w b o = some v → o < lim' b ∧ (cellAt w' b o = some v ∨ Mkd v ∧ ∃ n, cellAt w' b o = some (mkV v n))

theorem Lv.slice {lim : Nat → Nat} {w : World} : ∀ {s : Sh} {v as}, Lv lim w s v as → ∃ A n c, v = .slice A n c
  | .slc _, _, _, h => by unfold Lv at h; obtain ⟨A, n, c, _, _, h, _⟩ := h; exact ⟨A, n, c, h⟩

mutual
theorem Lv.mono {lim lim' : Nat → Nat} {w w' : World} (hw : IntW lim lim' w w') : ∀ (s : Sh) (v : Value) (as : List (Nat × Nat)), Lv lim w s v as → Lv lim' w' s v as
  | .slc fs, v, as, h => by
    unfold Lv at h ⊢
    obtain ⟨A, n, c, b, o, h1, h2, h3, ass, h4, h5, h6⟩ := h
    exact ⟨A, n, c, b, o, h1, h2, h3, ass, h4, h5, fun i l hi => LvF.mono hw fs b _ l (h6 i l hi)⟩
theorem LvF.mono {lim lim' : Nat → Nat} {w w' : World} (hw : IntW lim lim' w w') : ∀ (fs : Fs) (b o : Nat) (as : List (Nat × Nat)), LvF lim w fs b o as → LvF lim' w' fs b o as
  | .nil, _, _, as, h => by unfold LvF at h ⊢; exact h
  | .cell r, b, o, as, h => by
    unfold LvF at h ⊢
    obtain ⟨l, h1, h2, ⟨m, h3⟩, h4⟩ := h
    obtain ⟨q1, q2⟩ := hw b _ _ h2 h3
    refine ⟨l, h1, q1, ?_, LvF.mono hw r b _ l h4⟩
    rcases q2 with q2 | ⟨_, m', q2⟩
    · exact ⟨m, q2⟩
    · exact ⟨m', q2⟩
  | .flag r, b, o, as, h => by
    unfold LvF at h ⊢
    obtain ⟨l, h1, h2, ⟨m, h3⟩, h4⟩ := h
    obtain ⟨q1, q2⟩ := hw b _ _ h2 h3
    refine ⟨l, h1, q1, ?_, LvF.mono hw r b _ l h4⟩
    rcases q2 with q2 | ⟨_, m', q2⟩
    · exact ⟨m, q2⟩
    · exact ⟨_, q2⟩
  | .skip r, b, o, as, h => by
    unfold LvF at h ⊢
    exact LvF.mono hw r b _ as h
  | .sub s r, b, o, as, h => by
    unfold LvF at h ⊢
    obtain ⟨v, l1, l2, h1, h2, h3, h4, h5⟩ := h
    obtain ⟨q1, q2⟩ := hw b _ _ h2 h3
    refine ⟨v, l1, l2, h1, q1, ?_, Lv.mono hw s v l1 h4, LvF.mono hw r b _ l2 h5⟩
    rcases q2 with q2 | ⟨q2, _⟩
    · exact q2
    · obtain ⟨A, n, c, e⟩ := h4.slice
      rw [e] at q2
      rcases q2 with ⟨m, q2⟩ | ⟨m, q2⟩ <;> cases q2
end
theorem LvA.mono {lim lim' : Nat → Nat} {w w' : World} (hw : IntW lim lim' w w') : ∀ (fs : Fs) (vs : List Value) (as : List (Nat × Nat)), LvA lim w fs vs as → LvA lim' w' fs vs as
  | .nil, _, as, h => by unfold LvA at h ⊢; exact h
  | .cell _, _, _, h => by unfold LvA at h; exact h.elim
  | .flag _, _, _, h => by unfold LvA at h; exact h.elim
  | .skip r, vs, as, h => by
    unfold LvA at h ⊢
    exact LvA.mono hw r _ as h
  | .sub s r, vs, as, h => by
    unfold LvA at h ⊢
    obtain ⟨v, l1, l2, h1, h2, h3, h4⟩ := h
    exact ⟨v, l1, l2, h1, h2, Lv.mono hw s v l1 h3, LvA.mono hw r _ l2 h4⟩

mutual
theorem Lv.ints {lim : Nat → Nat} {w : World} : ∀ (s : Sh) (v : Value) (as : List (Nat × Nat)), Lv lim w s v as → ∀ p ∈ as, p.2 < lim p.1 ∧ MkC w p
  | .slc fs, v, as, h => by
    unfold Lv at h
    obtain ⟨A, n, c, b, o, h1, h2, h3, ass, h4, h5, h6⟩ := h
    intro p hp
    rw [h5, List.mem_flatten] at hp
    obtain ⟨l, hl, hp⟩ := hp
    obtain ⟨i, hi⟩ := List.getElem?_of_mem hl
    exact LvF.ints fs b _ l (h6 i l hi) p hp
theorem LvF.ints {lim : Nat → Nat} {w : World} : ∀ (fs : Fs) (b o : Nat) (as : List (Nat × Nat)), LvF lim w fs b o as → ∀ p ∈ as, p.2 < lim p.1 ∧ MkC w p
  | .nil, _, _, as, h => by unfold LvF at h; subst h; simp
  | .cell r, b, o, as, h => by
    unfold LvF at h
    obtain ⟨l, h1, h2, h3, h4⟩ := h
    subst h1
    intro p hp
    rcases List.mem_cons.1 hp with rfl | hp
    · obtain ⟨m, h3⟩ := h3; exact ⟨h2, MkC.int h3⟩
    · exact LvF.ints r b _ l h4 p hp
  | .flag r, b, o, as, h => by
    unfold LvF at h
    obtain ⟨l, h1, h2, h3, h4⟩ := h
    subst h1
    intro p hp
    rcases List.mem_cons.1 hp with rfl | hp
    · obtain ⟨m, h3⟩ := h3; exact ⟨h2, MkC.bool h3⟩
    · exact LvF.ints r b _ l h4 p hp
  | .skip r, b, o, as, h => by
    unfold LvF at h
    exact LvF.ints r b _ as h
  | .sub s r, b, o, as, h => by
    unfold LvF at h
    obtain ⟨v, l1, l2, h1, h2, h3, h4, h5⟩ := h
    subst h1
    intro p hp
    rcases List.mem_append.1 hp with hp | hp
    · exact Lv.ints s v l1 h4 p hp
    · exact LvF.ints r b _ l2 h5 p hp
end
theorem LvA.ints {lim : Nat → Nat} {w : World} : ∀ (fs : Fs) (vs : List Value) (as : List (Nat × Nat)), LvA lim w fs vs as → ∀ p ∈ as, p.2 < lim p.1 ∧ MkC w p
  | .nil, _, as, h => by unfold LvA at h; subst h; simp
  | .cell _, _, _, h => by unfold LvA at h; exact h.elim
  | .flag _, _, _, h => by unfold LvA at h; exact h.elim
  | .skip r, vs, as, h => by
    unfold LvA at h
    exact LvA.ints r _ as h
  | .sub s r, vs, as, h => by
    unfold LvA at h
    obtain ⟨v, l1, l2, h1, h2, h3, h4⟩ := h
    subst h1
    intro p hp
    rcases List.mem_append.1 hp with hp | hp
    · exact Lv.ints s v l1 h3 p hp
    · exact LvA.ints r _ l2 h4 p hp

/-! Writing. -/
/-- The place may be written. -/
def Wr (w : World) (p : Nat × Nat) : Prop := ∃ vs e, w.heap[p.1]? = some (.cells vs e (0, 0)) ∧ p.2 < vs.size
def wr (w : World) (p : Nat × Nat) (n : Int) : World := match w.heap[p.1]? with
  | some (.cells vs _ _) => w.setRow p.1 (vs.toList.take p.2 ++ [mkV (vs.getD p.2 undef) n] ++ vs.toList.drop (p.2 + 1)).toArray
  | _ => w
def wrs (w : World) : List (Nat × Nat) → Int → World
  | [], _ => w
  | p :: ps, k => wrs (wr w p k) ps (k + 1)

theorem wr_eq {w : World} {p : Nat × Nat} {n : Int} {vs : Array Value} {e : TypeId} {f : Nat × Nat} (h : w.heap[p.1]? = some (.cells vs e f)) : wr w p n = w.setRow p.1 (vs.toList.take p.2 ++ [mkV (vs.getD p.2 undef) n] ++ vs.toList.drop (p.2 + 1)).toArray := by
  unfold wr; rw [h]
theorem wr_other {w : World} {p : Nat × Nat} {n : Int} {b : Nat} (h : b ≠ p.1) : (wr w p n).heap[b]? = w.heap[b]? := by
  unfold wr
  split
  · exact setRow_other w p.1 b _ h
  · rfl
theorem wr_size {w : World} {p : Nat × Nat} {n : Int} : (wr w p n).heap.size = w.heap.size := by
  unfold wr
  split
  · simp [World.setRow]
  · rfl
theorem wr_rest {w : World} {p : Nat × Nat} {n : Int} : (wr w p n).os = w.os ∧ (wr w p n).tape = w.tape ∧ (wr w p n).output = w.output := by
  unfold wr
  split <;> exact ⟨rfl, rfl, rfl⟩
theorem wr_cells {w : World} {p : Nat × Nat} {n : Int} (h : Wr w p) : ∀ (b : Nat) (vs : Array Value) (e : TypeId), w.heap[b]? = some (.cells vs e (0, 0)) → ∃ vs', (wr w p n).heap[b]? = some (.cells vs' e (0, 0)) ∧ vs'.size = vs.size := fun b vs e hb => by
  by_cases hp : b = p.1
  · subst hp
    obtain ⟨vs0, e0, h1, h2⟩ := h
    rw [hb] at h1
    obtain ⟨rfl, rfl⟩ : vs = vs0 ∧ e = e0 := by simpa using h1
    refine ⟨_, by rw [wr_eq hb]; exact setRow_heap w _ _ _ _ _ hb, ?_⟩
    simp
    omega
  · exact ⟨vs, by rw [wr_other hp]; exact hb, rfl⟩
theorem Wr.wr {w : World} {p q : Nat × Nat} {n : Int} (h : Wr w p) (hq : Wr w q) : Wr (Lg.wr w p n) q := by
  obtain ⟨vs, e, h1, h2⟩ := hq
  obtain ⟨vs', h3, h4⟩ := wr_cells (n := n) h _ vs e h1
  exact ⟨vs', e, h3, by omega⟩
theorem cellAt_row {w : World} {b o : Nat} {vs : Array Value} {e : TypeId} (h : w.heap[b]? = some (.cells vs e (0, 0))) : cellAt w b o = vs[o]? := by
  simp [cellAt, World.cell?, h]
theorem cellAt_wr {w : World} {p : Nat × Nat} {n : Int} (h : Wr w p) (b o : Nat) : cellAt (wr w p n) b o = if (b, o) = p then some (mkV ((cellAt w p.1 p.2).getD undef) n) else cellAt w b o := by
  obtain ⟨vs, e, h1, h2⟩ := h
  obtain ⟨pb, po⟩ := p
  simp only at h1 h2
  by_cases hb : b = pb
  · subst hb
    simp only [cellAt]
    rw [wr_eq h1, cell_setRow_same w _ _ vs _ _ _ h1]
    simp only [World.cell?, h1]
    simp only [List.getElem?_toArray, Prod.mk.injEq, true_and, Option.isSome_none, Bool.false_eq_true, if_false]
    have hlen : (vs.toList.take po).length = po := by simp; omega
    by_cases c1 : o < po
    · rw [if_neg (by omega), List.append_assoc, List.getElem?_append_left (by omega), List.getElem?_take, if_pos c1]
      simp
    · by_cases c2 : o = po
      · subst c2
        rw [if_pos rfl, List.append_assoc, List.getElem?_append_right (by omega), hlen, List.getElem?_append_left (by simp)]
        simp [Array.getD_eq_getD_getElem?]
      · rw [if_neg c2, List.getElem?_append_right (by simp; omega), List.getElem?_drop]
        simp only [List.length_append, hlen, List.length_singleton]
        rw [show po + 1 + (o - (po + 1)) = o by omega]
        simp
  · rw [if_neg (by simp [hb])]
    simp only [cellAt]
    exact cell_of_heap (wr_other hb)

theorem wrs_append (w : World) (l1 l2 : List (Nat × Nat)) (k : Int) : wrs w (l1 ++ l2) k = wrs (wrs w l1 k) l2 (k + l1.length) := by
  induction l1 generalizing w k with
  | nil => simp [wrs]
  | cons p ps ih =>
    simp only [List.cons_append, wrs, List.length_cons]
    rw [ih, show k + 1 + (ps.length : Int) = k + ((ps.length + 1 : Nat) : Int) by omega]
theorem wrs_size {l : List (Nat × Nat)} : ∀ {w : World} {k : Int}, (wrs w l k).heap.size = w.heap.size := by
  induction l with
  | nil => intro w k; rfl
  | cons p ps ih => intro w k; simp only [wrs]; rw [ih, wr_size]
theorem wrs_rest {l : List (Nat × Nat)} : ∀ {w : World} {k : Int}, (wrs w l k).os = w.os ∧ (wrs w l k).tape = w.tape ∧ (wrs w l k).output = w.output := by
  induction l with
  | nil => intro w k; exact ⟨rfl, rfl, rfl⟩
  | cons p ps ih =>
    intro w k
    simp only [wrs]
    obtain ⟨h1, h2, h3⟩ := ih (w := wr w p k) (k := k + 1)
    obtain ⟨q1, q2, q3⟩ := wr_rest (w := w) (p := p) (n := k)
    exact ⟨h1.trans q1, h2.trans q2, h3.trans q3⟩
theorem wrs_other {l : List (Nat × Nat)} {b : Nat} : ∀ {w : World} {k : Int}, (∀ p ∈ l, p.1 ≠ b) → (wrs w l k).heap[b]? = w.heap[b]? := by
  induction l with
  | nil => intro w k _; rfl
  | cons p ps ih =>
    intro w k h
    simp only [wrs]
    rw [ih fun q hq => h q (List.mem_cons_of_mem _ hq), wr_other (Ne.symm (h p List.mem_cons_self))]
theorem wrs_Wr {l : List (Nat × Nat)} : ∀ {w : World} {k : Int}, (∀ p ∈ l, Wr w p) → ∀ q, Wr w q → Wr (wrs w l k) q := by
  induction l with
  | nil => intro w k _ q hq; exact hq
  | cons p ps ih =>
    intro w k h q hq
    have hp := h p List.mem_cons_self
    exact ih (fun r hr => hp.wr (h r (List.mem_cons_of_mem _ hr))) q (hp.wr hq)
theorem wrs_cells {l : List (Nat × Nat)} : ∀ {w : World} {k : Int}, (∀ p ∈ l, Wr w p) → ∀ (b : Nat) (vs : Array Value) (e : TypeId), w.heap[b]? = some (.cells vs e (0, 0)) → ∃ vs', (wrs w l k).heap[b]? = some (.cells vs' e (0, 0)) ∧ vs'.size = vs.size := by
  induction l with
  | nil => intro w k _ b vs e h; exact ⟨vs, h, rfl⟩
  | cons p ps ih =>
    intro w k h b vs e hb
    have hp := h p List.mem_cons_self
    obtain ⟨vs1, h1, h2⟩ := wr_cells (n := k) hp b vs e hb
    obtain ⟨vs2, h3, h4⟩ := ih (k := k + 1) (fun r hr => hp.wr (h r (List.mem_cons_of_mem _ hr))) b vs1 e h1
    exact ⟨vs2, h3, by omega⟩
theorem wrs_off {l : List (Nat × Nat)} {b o : Nat} : ∀ {w : World} {k : Int}, (∀ p ∈ l, Wr w p) → (b, o) ∉ l → cellAt (wrs w l k) b o = cellAt w b o := by
  induction l with
  | nil => intro w k _ _; rfl
  | cons p ps ih =>
    intro w k h hn
    have hp := h p List.mem_cons_self
    simp only [wrs]
    rw [ih (fun r hr => hp.wr (h r (List.mem_cons_of_mem _ hr))) (fun hm => hn (List.mem_cons_of_mem _ hm)), cellAt_wr hp, if_neg (fun e : (b, o) = p => hn (e ▸ List.mem_cons_self))]
theorem wr_mkC {w : World} {p q : Nat × Nat} {n : Int} (h : Wr w p) (hi : MkC w p) (hq : MkC w q) : MkC (wr w p n) q := by
  by_cases e : q = p
  · subst e
    obtain ⟨v, h1, h2⟩ := hi
    exact ⟨mkV v n, mkd_mkV n h1, by rw [cellAt_wr h, if_pos rfl, h2]; rfl⟩
  · obtain ⟨v, h1, h2⟩ := hq
    exact ⟨v, h1, by rw [cellAt_wr h, if_neg (fun e' : (q.1, q.2) = p => e e')]; exact h2⟩
theorem wrs_at {l : List (Nat × Nat)} : ∀ {w : World} {k : Int}, (∀ p ∈ l, Wr w p) → (∀ p ∈ l, MkC w p) → l.Nodup → ∀ (j : Nat) (p : Nat × Nat), l[j]? = some p → HvC (wrs w l k) p (k + j) := by
  induction l with
  | nil => intro w k _ _ _ j p h; simp at h
  | cons q ps ih =>
    intro w k h hi hn j p hj
    have hq := h q List.mem_cons_self
    obtain ⟨hn1, hn2⟩ := List.nodup_cons.1 hn
    simp only [wrs]
    cases j with
    | zero =>
      obtain rfl : q = p := by simpa using hj
      obtain ⟨v, e1, e2⟩ := hi q List.mem_cons_self
      refine ⟨v, e1, ?_⟩
      rw [wrs_off (fun r hr => hq.wr (h r (List.mem_cons_of_mem _ hr))) hn1, cellAt_wr hq, if_pos rfl, e2]
      simp
    | succ j =>
      have := ih (w := wr w q k) (k := k + 1) (fun r hr => hq.wr (h r (List.mem_cons_of_mem _ hr))) (fun r hr => wr_mkC hq (hi q List.mem_cons_self) (hi r (List.mem_cons_of_mem _ hr))) hn2 j p (by simpa using hj)
      rwa [show k + 1 + (j : Int) = k + ((j + 1 : Nat) : Int) by omega] at this
/-- Writes put marks for marked cells. -/
theorem wr_intW {lim : Nat → Nat} {w : World} {p : Nat × Nat} {n : Int} (h : Wr w p) (hi : MkC w p) : IntW lim lim w (wr w p n) := fun b o v ho hv => by
  refine ⟨ho, ?_⟩
  rw [cellAt_wr h]
  split
  · rename_i e
    subst e
    obtain ⟨m, h1, hm⟩ := hi
    rw [hv] at hm
    obtain rfl := Option.some.inj hm
    exact .inr ⟨h1, n, by rw [hv]; rfl⟩
  · exact .inl hv
theorem wrs_intW {lim : Nat → Nat} {l : List (Nat × Nat)} : ∀ {w : World} {k : Int}, (∀ p ∈ l, Wr w p) → (∀ p ∈ l, MkC w p) → IntW lim lim w (wrs w l k) := by
  induction l with
  | nil => intro w k _ _ b o v ho hv; exact ⟨ho, .inl hv⟩
  | cons p ps ih =>
    intro w k h hi b o v ho hv
    have hp := h p List.mem_cons_self
    have s1 := wr_intW (lim := lim) (n := k) hp (hi p List.mem_cons_self)
    have hi' : ∀ q ∈ ps, MkC (wr w p k) q := fun q hq => wr_mkC hp (hi p List.mem_cons_self) (hi q (List.mem_cons_of_mem _ hq))
    have s2 := ih (k := k + 1) (fun r hr => hp.wr (h r (List.mem_cons_of_mem _ hr))) hi'
    simp only [wrs]
    obtain ⟨_, q⟩ := s1 b o v ho hv
    refine ⟨ho, ?_⟩
    rcases q with q | ⟨e1, m', e2⟩
    · exact (s2 b o v ho q).2
    · rcases (s2 b o _ ho e2).2 with q | ⟨_, m2, q⟩
      · exact .inr ⟨e1, m', q⟩
      · exact .inr ⟨e1, m2, by rw [q, mkV_mkV _ _ e1]⟩
end Go.Lg
/-
  Lg, part 33: a labelled tree's int cells are places apart from each other; what bears other labels stands when they are written.
-/
namespace Go.Lg
open Go Go.RowKit

def Tk.still : Tk → Bool
  | .own .. => false
  | _ => true
def D.plain : D → Bool
  | .int .. | .bool _ | .str _ => true
  | _ => false
/-! 'd' reads as a list of this shape, whose every block bears a label of its own (beginning with 'p'); 'n' marked ints. -/
mutual
def LT : Sh → List Nat → D → Nat → Prop
  | .slc fs, p, d, n => ∃ (tk : Tk) (xs : List D) (ns : List Nat), d = .sl tk xs ∧ tk.still = true ∧ (xs = [] ∨ tk = .lab p) ∧ ns.length = xs.length ∧ n = ns.sum ∧ ∀ (i : Nat) x m, xs[i]? = some x → ns[i]? = some m → LF fs (p ++ [i]) 0 x.cells m
def LF : Fs → List Nat → Nat → List D → Nat → Prop
  | .nil, _, _, cs, n => n = 0 ∧ cs = []
  | .cell r, p, j, cs, n => ∃ m k t, cs = .int .i64 m :: t ∧ n = k + 1 ∧ LF r p (j + 1) t k
  | .flag r, p, j, cs, n => ∃ c k t, cs = .bool c :: t ∧ n = k + 1 ∧ LF r p (j + 1) t k
  | .skip r, p, j, cs, n => ∃ c t, cs = c :: t ∧ c.plain = true ∧ LF r p (j + 1) t n
  | .sub s r, p, j, cs, n => ∃ d k1 k2 t, cs = d :: t ∧ n = k1 + k2 ∧ LT s (p ++ [j]) d k1 ∧ LF r p (j + 1) t k2
end
theorem LF.len : ∀ (fs : Fs) (p : List Nat) (j : Nat) (cs : List D) (n : Nat), LF fs p j cs n → cs.length = fs.len
  | .nil, _, _, _, _, h => by unfold LF at h; rw [h.2]; rfl
  | .cell r, p, j, cs, n, h => by
    unfold LF at h
    obtain ⟨m, k, t, rfl, _, h⟩ := h
    simp [Fs.len, LF.len r p _ t k h]
  | .flag r, p, j, cs, n, h => by
    unfold LF at h
    obtain ⟨m, k, t, rfl, _, h⟩ := h
    simp [Fs.len, LF.len r p _ t k h]
  | .skip r, p, j, cs, n, h => by
    unfold LF at h
    obtain ⟨c, t, rfl, _, h⟩ := h
    simp [Fs.len, LF.len r p _ t n h]
  | .sub s r, p, j, cs, n, h => by
    unfold LF at h
    obtain ⟨d, k1, k2, t, rfl, _, _, h⟩ := h
    simp [Fs.len, LF.len r p _ t k2 h]

theorem plain_rel {G G' : Ghost} {w w' : World} {d : D} {v : Value} (h : d.plain = true) (hr : Rel G w d v) : Rel G' w' d v := by
  cases d <;> simp [D.plain] at h <;> cases hr
  · exact .int
  · exact .bool
  · exact .str

/-- The j-th cell of element i. -/
theorem flat_elem {s : Nat} {xs : List D} (h : ∀ x ∈ xs, x.cells.length = s) {q : Nat} {d : D} (hq : (flat xs)[q]? = some d) : ∃ i j x, xs[i]? = some x ∧ x.cells[j]? = some d ∧ q = i * s + j ∧ j < s := by
  induction xs generalizing q with
  | nil => simp [flat] at hq
  | cons x xs ih =>
    rw [flat_cons] at hq
    have hx := h x List.mem_cons_self
    by_cases hl : q < x.cells.length
    · rw [List.getElem?_append_left hl] at hq
      exact ⟨0, q, x, rfl, hq, by omega, by omega⟩
    · rw [List.getElem?_append_right (by omega)] at hq
      obtain ⟨i, j, y, h1, h2, h3, h4⟩ := ih (fun y hy => h y (List.mem_cons_of_mem _ hy)) hq
      refine ⟨i + 1, j, y, by simpa using h1, h2, ?_, h4⟩
      rw [Nat.add_mul]; omega

mutual
theorem LT.keeps {G : Ghost} {w w' : World} : ∀ (s : Sh) (q : List Nat) (d : D) (n : Nat), LT s q d n → q ≠ [] → (∀ b o v, q <+: G.lab b → cellAt w b o = some v → cellAt w' b o = some v) → ∀ v, Rel G w d v → Rel G w' d v
  | .slc fs, q, d, n, h, hq0, hf, v, hr => by
    unfold LT at h
    obtain ⟨tk, xs, ns, rfl, ht, hx, hn, _, hel⟩ := h
    cases hr with
    | @sl _ _ A m c b o s hlen hc hm htk hA hu hk hst hrr =>
    have htk' : TkOk G w' tk xs A m c := by
      cases tk <;> first | exact htk | (simp [Tk.still] at ht)
    by_cases hxs : xs = []
    · subst hxs
      exact .sl (b := b) (o := o) (s := s) hlen hc hm htk' (.inl rfl) hu hk (by simp [flat]) (by simp [flat])
    · obtain rfl : tk = .lab q := hx.resolve_left hxs
      obtain ⟨g, o', e1, e2, _⟩ := htk.resolve_left hxs
      have hA' := hA.resolve_left hxs
      rw [e1] at hA'
      obtain ⟨rfl, rfl⟩ : g = b ∧ o' = o := by simpa using hA'
      refine .sl (b := g) (o := o') (s := s) hlen hc hm htk' hA hu hk (fun j d hj => ?_) (fun j d u hj hu' => ?_)
      · obtain ⟨h1, u, h2⟩ := hst j d hj
        exact ⟨h1, u, hf g _ u (e2 ▸ List.prefix_refl _) h2⟩
      · obtain ⟨h1, u', h2⟩ := hst j d hj
        have h3 := hf g _ u' (e2 ▸ List.prefix_refl _) h2
        rw [show cellAt w' g (o' + j) = some u from hu'] at h3
        obtain rfl := Option.some.inj h3
        obtain ⟨i, j', x, k1, k2, k3, k4⟩ := flat_elem hu hj
        have hi : i < ns.length := by rw [hn]; exact (List.getElem?_eq_some_iff.1 k1).1
        exact LF.keeps fs (q ++ [i]) 0 x.cells _ (hel i x _ k1 (List.getElem?_eq_getElem hi)) (by simp) (fun b o v hb hv => hf b o v ((List.prefix_append q [i]).trans hb) hv) j' d k2 u (hrr j d u hj h2)
theorem LF.keeps {G : Ghost} {w w' : World} : ∀ (fs : Fs) (q : List Nat) (j : Nat) (cs : List D) (n : Nat), LF fs q j cs n → q ≠ [] → (∀ b o v, q <+: G.lab b → cellAt w b o = some v → cellAt w' b o = some v) → ∀ (i : Nat) (d : D), cs[i]? = some d → ∀ v, Rel G w d v → Rel G w' d v
  | .nil, _, _, cs, _, h, _, _, i, d, hd, v, hr => by
    unfold LF at h
    rw [h.2] at hd
    simp at hd
  | .cell r, q, j, cs, n, h, hq, hf, i, d, hd, v, hr => by
    unfold LF at h
    obtain ⟨m, k, t, rfl, _, h⟩ := h
    cases i with
    | zero =>
      obtain rfl : D.int .i64 m = d := by simpa using hd
      exact plain_rel rfl hr
    | succ i => exact LF.keeps r q _ t k h hq hf i d (by simpa using hd) v hr
  | .flag r, q, j, cs, n, h, hq, hf, i, d, hd, v, hr => by
    unfold LF at h
    obtain ⟨m, k, t, rfl, _, h⟩ := h
    cases i with
    | zero =>
      obtain rfl : D.bool m = d := by simpa using hd
      exact plain_rel rfl hr
    | succ i => exact LF.keeps r q _ t k h hq hf i d (by simpa using hd) v hr
  | .skip r, q, j, cs, n, h, hq, hf, i, d, hd, v, hr => by
    unfold LF at h
    obtain ⟨c, t, rfl, hp, h⟩ := h
    cases i with
    | zero =>
      obtain rfl : c = d := by simpa using hd
      exact plain_rel hp hr
    | succ i => exact LF.keeps r q _ t n h hq hf i d (by simpa using hd) v hr
  | .sub s r, q, j, cs, n, h, hq, hf, i, d, hd, v, hr => by
    unfold LF at h
    obtain ⟨d0, k1, k2, t, rfl, _, h0, h⟩ := h
    cases i with
    | zero =>
      obtain rfl : d0 = d := by simpa using hd
      exact LT.keeps s (q ++ [j]) d0 k1 h0 (by simp) (fun b o v hb hv => hf b o v ((List.prefix_append q [j]).trans hb) hv) v hr
    | succ i => exact LF.keeps r q _ t k2 h hq hf i d (by simpa using hd) v hr
end

theorem pre_eq {l1 l2 l : List Nat} (h1 : l1 <+: l) (h2 : l2 <+: l) (h : l1.length = l2.length) : l1 = l2 := (List.prefix_of_prefix_length_le h1 h2 (by omega)).eq_of_length h

mutual
theorem LT.lv {G : Ghost} {w : World} : ∀ (s : Sh) (p : List Nat) (d : D) (n : Nat), LT s p d n → p ≠ [] → ∀ v, Rel G w d v → ∃ as, Lv G.lim w s v as ∧ as.length = n ∧ as.Nodup ∧ ∀ q ∈ as, p <+: G.lab q.1
  | .slc fs, p, d, n, h, hp0, v, hr => by
    unfold LT at h
    obtain ⟨tk, xs, ns, rfl, ht, hx, hn, hsum, hel⟩ := h
    cases hr with
    | @sl _ _ A m c b o s hlen hc hm htk hA hu hk hst hrr =>
    by_cases hxs : xs = []
    · subst hxs
      have h0 : m = 0 := by simpa using hlen
      have hns : ns = [] := List.length_eq_zero_iff.1 (by simpa using hn)
      refine ⟨[], ?_, by rw [hsum, hns]; rfl, by simp, by simp⟩
      unfold Lv
      exact ⟨A, m, c, b, o, rfl, by omega, .inl h0, [], by simp [h0], rfl, by simp⟩
    · obtain rfl : tk = .lab p := hx.resolve_left hxs
      obtain ⟨g, o', e1, e2, _⟩ := htk.resolve_left hxs
      have hA' := hA.resolve_left hxs
      rw [e1] at hA'
      obtain ⟨rfl, rfl⟩ : g = b ∧ o' = o := by simpa using hA'
      have hz : s = fs.len := by
        cases xs with
        | nil => exact absurd rfl hxs
        | cons x r =>
          have h1 := hu x List.mem_cons_self
          cases ns with
          | nil => simp at hn
          | cons m0 ns => rw [← h1]; exact LF.len fs _ 0 _ _ (hel 0 x m0 rfl rfl)
      subst hz
      have hone : ∀ i : Nat, ∃ l : List (Nat × Nat), i < xs.length → LvF G.lim w fs g (o' + i * fs.len) l ∧ ns[i]? = some l.length ∧ l.Nodup ∧ ∀ q ∈ l, (q.1 = g ∧ o' + i * fs.len ≤ q.2 ∧ q.2 < o' + i * fs.len + fs.len) ∨ ∃ j, (p ++ [i] ++ [j]) <+: G.lab q.1 := fun i => by
        by_cases hi : i < xs.length
        · obtain ⟨l, h1, h2, h3, h4⟩ := LF.lv (G := G) (w := w) fs (p ++ [i]) 0 xs[i].cells ns[i] (hel i _ _ (List.getElem?_eq_getElem hi) (List.getElem?_eq_getElem (by omega))) p i rfl g (o' + i * fs.len) e2 (fun j d hj => by
            have := flat_at hu hi hj
            obtain ⟨k1, u, k2⟩ := hst _ d this
            rw [← Nat.add_assoc] at k1 k2
            exact ⟨k1, u, k2, hrr _ d u this (by rw [← Nat.add_assoc]; exact k2)⟩)
          refine ⟨l, fun _ => ⟨h1, by rw [h2]; exact List.getElem?_eq_getElem (by omega), h3, fun q hq => ?_⟩⟩
          rcases h4 q hq with h | ⟨j, _, h⟩
          · exact .inl h
          · exact .inr ⟨j, h⟩
        · exact ⟨[], fun h => absurd h hi⟩
      obtain ⟨f, hf⟩ := Classical.axiomOfChoice hone
      have hget : ∀ i l, ((List.range xs.length).map f)[i]? = some l → i < xs.length ∧ l = f i := fun i l hil => by
        rw [List.getElem?_map] at hil
        by_cases hi : i < xs.length
        · rw [List.getElem?_range hi] at hil
          exact ⟨hi, by simpa using hil.symm⟩
        · rw [List.getElem?_eq_none (by simpa using hi)] at hil
          cases hil
      refine ⟨((List.range xs.length).map f).flatten, ?_, ?_, ?_, ?_⟩
      · unfold Lv
        exact ⟨A, m, c, g, o', rfl, by omega, .inr e1, (List.range xs.length).map f, by simp [hlen], rfl, fun i l hil => by
          obtain ⟨h1, rfl⟩ := hget i l hil
          exact (hf i h1).1⟩
      · rw [List.length_flatten, hsum]
        congr 1
        refine List.ext_getElem? fun i => ?_
        rw [List.getElem?_map, List.getElem?_map]
        by_cases hi : i < xs.length
        · rw [List.getElem?_range hi, (hf i hi).2.1]
          rfl
        · rw [List.getElem?_eq_none (l := List.range _) (by simpa using hi), List.getElem?_eq_none (l := ns) (by omega)]
          rfl
      · rw [List.Nodup, List.pairwise_flatten]
        refine ⟨fun l hl => ?_, ?_⟩
        · obtain ⟨i, hi, rfl⟩ := List.mem_map.1 hl
          exact (hf i (List.mem_range.1 hi)).2.2.1
        · rw [List.pairwise_map]
          refine List.Pairwise.imp_of_mem ?_ List.pairwise_lt_range
          intro i j hi hj hij x hx y hy hxy
          subst hxy
          have hi := List.mem_range.1 hi
          have hj := List.mem_range.1 hj
          rcases (hf i hi).2.2.2 x hx with ⟨a1, a2, a3⟩ | ⟨a, ha⟩
          · rcases (hf j hj).2.2.2 x hy with ⟨c1, c2, c3⟩ | ⟨c, hc⟩
            · have : (i + 1) * fs.len ≤ j * fs.len := Nat.mul_le_mul_right _ hij
              rw [Nat.add_mul] at this
              omega
            · rw [a1, e2] at hc
              have := hc.length_le
              simp at this
              try omega
          · rcases (hf j hj).2.2.2 x hy with ⟨c1, c2, c3⟩ | ⟨c, hc⟩
            · rw [c1, e2] at ha
              have := ha.length_le
              simp at this
              try omega
            · have h1 := (List.prefix_append (p ++ [i]) [a]).trans ha
              have h2 := (List.prefix_append (p ++ [j]) [c]).trans hc
              have := pre_eq h1 h2 (by simp)
              simp at this
              omega
      · intro q hq
        obtain ⟨l, hl, hq⟩ := List.mem_flatten.1 hq
        obtain ⟨i, hi, rfl⟩ := List.mem_map.1 hl
        rcases (hf i (List.mem_range.1 hi)).2.2.2 q hq with ⟨a1, _⟩ | ⟨a, ha⟩
        · rw [a1, e2]; exact List.prefix_refl _
        · rw [List.append_assoc] at ha
          exact (List.prefix_append p _).trans ha
theorem LF.lv {G : Ghost} {w : World} : ∀ (fs : Fs) (p : List Nat) (j : Nat) (cs : List D) (n : Nat), LF fs p j cs n → ∀ (p0 : List Nat) (i0 : Nat), p = p0 ++ [i0] → ∀ (b o : Nat), G.lab b = p0 → (∀ (i : Nat) d, cs[i]? = some d → o + i < G.lim b ∧ ∃ v, cellAt w b (o + i) = some v ∧ Rel G w d v) →
    ∃ as, LvF G.lim w fs b o as ∧ as.length = n ∧ as.Nodup ∧ ∀ q ∈ as, (q.1 = b ∧ o ≤ q.2 ∧ q.2 < o + fs.len) ∨ ∃ j', j ≤ j' ∧ (p ++ [j']) <+: G.lab q.1
  | .nil, p, j, cs, n, h, p0, i0, hp, b, o, hb, hc => by
    unfold LF at h
    exact ⟨[], by unfold LvF; rfl, by simp [h.1], by simp, by simp⟩
  | .cell r, p, j, cs, n, h, p0, i0, hp, b, o, hb, hc => by
    unfold LF at h
    obtain ⟨m, k, t, rfl, rfl, h⟩ := h
    obtain ⟨l, h1, h2, h3, h4⟩ := LF.lv r p (j + 1) t k h p0 i0 hp b (o + 1) hb (fun i d hd => by
      have := hc (i + 1) d (by simpa using hd)
      rw [show o + 1 + i = o + (i + 1) by omega]; exact this)
    obtain ⟨c1, v, c2, c3⟩ := hc 0 _ rfl
    refine ⟨(b, o) :: l, ?_, by simp [h2], List.nodup_cons.2 ⟨fun hm => ?_, h3⟩, fun q hq => ?_⟩
    · unfold LvF
      refine ⟨l, rfl, c1, ⟨m, ?_⟩, h1⟩
      rw [show cellAt w b o = some v from c2]
      cases c3
      rfl
    · rcases h4 _ hm with ⟨_, q2, _⟩ | ⟨j', _, hj⟩
      · simp at q2; omega
      · simp only [hb, hp] at hj
        have := hj.length_le
        simp at this
        try omega
        try omega
    · rcases List.mem_cons.1 hq with rfl | hq
      · exact .inl ⟨rfl, Nat.le_refl _, by simp [Fs.len]⟩
      · rcases h4 q hq with ⟨q1, q2, q3⟩ | ⟨j', q1, q2⟩
        · exact .inl ⟨q1, by omega, by simp only [Fs.len]; omega⟩
        · exact .inr ⟨j', by omega, q2⟩
  | .flag r, p, j, cs, n, h, p0, i0, hp, b, o, hb, hc => by
    unfold LF at h
    obtain ⟨m, k, t, rfl, rfl, h⟩ := h
    obtain ⟨l, h1, h2, h3, h4⟩ := LF.lv r p (j + 1) t k h p0 i0 hp b (o + 1) hb (fun i d hd => by
      have := hc (i + 1) d (by simpa using hd)
      rw [show o + 1 + i = o + (i + 1) by omega]; exact this)
    obtain ⟨c1, v, c2, c3⟩ := hc 0 _ rfl
    refine ⟨(b, o) :: l, ?_, by simp [h2], List.nodup_cons.2 ⟨fun hm => ?_, h3⟩, fun q hq => ?_⟩
    · unfold LvF
      refine ⟨l, rfl, c1, ⟨m, ?_⟩, h1⟩
      rw [show cellAt w b o = some v from c2]
      cases c3
      rfl
    · rcases h4 _ hm with ⟨_, q2, _⟩ | ⟨j', _, hj⟩
      · simp at q2; omega
      · simp only [hb, hp] at hj
        have := hj.length_le
        simp at this
        try omega
        try omega
    · rcases List.mem_cons.1 hq with rfl | hq
      · exact .inl ⟨rfl, Nat.le_refl _, by simp [Fs.len]⟩
      · rcases h4 q hq with ⟨q1, q2, q3⟩ | ⟨j', q1, q2⟩
        · exact .inl ⟨q1, by omega, by simp only [Fs.len]; omega⟩
        · exact .inr ⟨j', by omega, q2⟩
  | .skip r, p, j, cs, n, h, p0, i0, hp, b, o, hb, hc => by
    unfold LF at h
    obtain ⟨c, t, rfl, _, h⟩ := h
    obtain ⟨l, h1, h2, h3, h4⟩ := LF.lv r p (j + 1) t n h p0 i0 hp b (o + 1) hb (fun i d hd => by
      have := hc (i + 1) d (by simpa using hd)
      rw [show o + 1 + i = o + (i + 1) by omega]; exact this)
    refine ⟨l, by unfold LvF; exact h1, h2, h3, fun q hq => ?_⟩
    rcases h4 q hq with ⟨q1, q2, q3⟩ | ⟨j', q1, q2⟩
    · exact .inl ⟨q1, by omega, by simp only [Fs.len]; omega⟩
    · exact .inr ⟨j', by omega, q2⟩
  | .sub s r, p, j, cs, n, h, p0, i0, hp, b, o, hb, hc => by
    unfold LF at h
    obtain ⟨d, k1, k2, t, rfl, rfl, h0, h⟩ := h
    obtain ⟨l2, h1, h2, h3, h4⟩ := LF.lv r p (j + 1) t k2 h p0 i0 hp b (o + 1) hb (fun i d hd => by
      have := hc (i + 1) d (by simpa using hd)
      rw [show o + 1 + i = o + (i + 1) by omega]; exact this)
    obtain ⟨c1, v, c2, c3⟩ := hc 0 d rfl
    obtain ⟨l1, m1, m2, m3, m4⟩ := LT.lv s (p ++ [j]) d k1 h0 (by simp) v c3
    refine ⟨l1 ++ l2, ?_, by simp [h2, m2], List.nodup_append.2 ⟨m3, h3, fun x hx y hy hxy => ?_⟩, fun q hq => ?_⟩
    · unfold LvF
      exact ⟨v, l1, l2, rfl, c1, c2, m1, h1⟩
    · subst hxy
      have a1 := m4 x hx
      rcases h4 x hy with ⟨q1, _⟩ | ⟨j', q1, q2⟩
      · rw [q1, hb, hp] at a1
        have := a1.length_le
        simp at this
        try omega
      · have := pre_eq a1 q2 (by simp)
        simp at this
        omega
    · rcases List.mem_append.1 hq with hq | hq
      · exact .inr ⟨j, Nat.le_refl _, m4 q hq⟩
      · rcases h4 q hq with ⟨q1, q2, q3⟩ | ⟨j', q1, q2⟩
        · exact .inl ⟨q1, by omega, by simp only [Fs.len]; omega⟩
        · exact .inr ⟨j', by omega, q2⟩
end
end Go.Lg
/-
  Lg, part 34: functions whose slots hold known values, in a known world (the marks).
-/
namespace Go.Lg
open Go Go.RowKit

structure ME (n : Nat) (E : List (Nat × Value)) (a : Act) : Prop where
  defers : a.defers = []
  size : a.tmps.size = n
  env : ∀ t v, look E t = some v → a.tmps[t]? = some v

def evV (E : List (Nat × Value)) : Operand → Option Value
  | .tmp t => look E t
  | .const v => some v
  | _ => none
theorem evV_eval {n : Nat} {E : List (Nat × Value)} {a : Act} (h : ME n E a) {x : Operand} {v : Value} (hx : evV E x = some v) : a.eval x = v := by
  cases x with
  | tmp t => simp [Act.eval, h.env t v hx]
  | const u => simpa [evV, Act.eval] using hx
  | _ => cases hx
theorem ME.put {n : Nat} {E : List (Nat × Value)} {a : Act} (h : ME n E a) {t : Nat} (ht : t < n) (v : Value) : ME n ((t, v) :: E) (a.put (some t) v) := by
  refine ⟨h.defers, by simpa [Act.put] using h.size, fun t' v' hv => ?_⟩
  simp only [look] at hv
  by_cases e : t = t'
  · subst e
    simp only [if_true, Option.some.injEq] at hv
    subst hv
    simp [Act.put, h.size, ht]
  · rw [if_neg e] at hv
    simp only [Act.put]
    rw [Array.getElem?_setIfInBounds_ne e]
    exact h.env t' v' hv

/-- The operations 'l', from these values and this world on, come to what K knows. -/
def OpsM (P : Program) (n : Nat) (ops : Array Oper) (l : List Oper) (E : List (Nat × Value)) (w : World) (K : List (Nat × Value) → World → Prop) : Prop :=
  ∀ a, ME n E a → ∀ Q : Exit → Act → World → Prop, (∀ E' a' w', K E' w' → ME n E' a' → Q .normal a' w') → wpList P ops Q l a w

section ops
variable {P : Program} {n : Nat} {ops : Array Oper} {l : List Oper} {E : List (Nat × Value)} {w : World} {K : List (Nat × Value) → World → Prop} {t : Nat} {ty : TypeId} {pos : String} {aft : Array Edge}

theorem m_nil (h : K E w) : OpsM P n ops [] E w K := fun a hE _ hQ => wpList_nil (hQ E a w h hE)
theorem m_val {o : Op} {v : Value} {w' : World} (ht : t < n) (hr : ∀ a, ME n E a → (execOp a.eval ⟨some t, o, ty, pos, aft, none⟩).run P w = .ok (.value v) w') (h : OpsM P n ops l ((t, v) :: E) w' K) :
    OpsM P n ops (⟨some t, o, ty, pos, aft, none⟩ :: l) E w K := by
  intro a hE Q hQ
  refine wpList_step fun N hN => ?_
  rw [if_pos (show Region.wanted ⟨some t, o, ty, pos, aft, none⟩ (yielded ops a.tmps) = true from rfl)]
  unfold Oper.wp
  rw [hr a hE]
  exact hN _ _ (h _ (hE.put ht v) Q hQ)
theorem m_move {x : Operand} {v : Value} (hx : evV E x = some v) (ht : t < n) (h : OpsM P n ops l ((t, v) :: E) w K) : OpsM P n ops (⟨some t, .move x, ty, pos, aft, none⟩ :: l) E w K :=
  m_val ht (fun a hE => by simp [execOp, evV_eval hE hx]) h
theorem m_assign {x : Operand} {v : Value} (hx : evV E x = some v) (ht : t < n) (h : OpsM P n ops l ((t, v) :: E) w K) : OpsM P n ops (⟨some t, .assign x, ty, pos, aft, none⟩ :: l) E w K :=
  m_val ht (fun a hE => by simp [execOp, evV_eval hE hx]) h
theorem m_len {x : Operand} {A : Option Addr} {m c : Nat} {T e : TypeId} (hx : evV E x = some (.slice A m c)) (hu : P.underlying T = some (.slice e)) (ht : t < n) (h : OpsM P n ops l ((t, .int .i64 m) :: E) w K) :
    OpsM P n ops (⟨some t, .call ⟨.builtin .len, #[x], #[T]⟩, ty, pos, aft, none⟩ :: l) E w K :=
  m_val ht (fun a hE => by simp [execOp, resolve, invoke, builtin, evV_eval hE hx, Builtin.len_, run_underlying hu, goInt]) h
theorem m_lss {x y : Operand} {k : IntKind} {i j : Int} {T U : TypeId} (hx : evV E x = some (.int k i)) (hy : evV E y = some (.int k j)) (ht : t < n) (h : OpsM P n ops l ((t, .bool (decide (i < j))) :: E) w K) :
    OpsM P n ops (⟨some t, .binOp .lss T x y U, ty, pos, aft, none⟩ :: l) E w K :=
  m_val ht (fun a hE => by unfold execOp; dsimp only; rw [Sem.run_bind, evV_eval hE hx, evV_eval hE hy]; simp [binOp_lss, eqGuard_at_int]) h
theorem m_neq {x y : Operand} {k : IntKind} {i j : Int} {T U : TypeId} (hx : evV E x = some (.int k i)) (hy : evV E y = some (.int k j)) (ht : t < n) (h : OpsM P n ops l ((t, .bool (i != j)) :: E) w K) :
    OpsM P n ops (⟨some t, .binOp .neq T x y U, ty, pos, aft, none⟩ :: l) E w K :=
  m_val ht (fun a hE => by unfold execOp; dsimp only; rw [Sem.run_bind, evV_eval hE hx, evV_eval hE hy]; simp [binOp_neq, eqGuard_at_int]) h
theorem m_add {x y : Operand} {i j : Int} {T U : TypeId} (hx : evV E x = some (.int .i64 i)) (hy : evV E y = some (.int .i64 j)) (hb : -9223372036854775808 ≤ i + j ∧ i + j ≤ 9223372036854775807) (ht : t < n) (h : OpsM P n ops l ((t, .int .i64 (i + j)) :: E) w K) :
    OpsM P n ops (⟨some t, .binOp .add T x y U, ty, pos, aft, none⟩ :: l) E w K :=
  m_val ht (fun a hE => by unfold execOp; dsimp only; rw [Sem.run_bind, evV_eval hE hx, evV_eval hE hy]; simp [binOp_add, eqGuard_at_int, Op.intArith, wrap64 hb.1 hb.2]) h
theorem m_rem {x y : Operand} {i j : Int} {T U : TypeId} (hx : evV E x = some (.int .i64 i)) (hy : evV E y = some (.int .i64 j)) (hb : 0 ≤ i ∧ i ≤ 9223372036854775807) (hj : 0 < j ∧ j ≤ 100) (ht : t < n) (h : OpsM P n ops l ((t, .int .i64 (i.tmod j)) :: E) w K) :
    OpsM P n ops (⟨some t, .binOp .rem T x y U, ty, pos, aft, none⟩ :: l) E w K :=
  m_val ht (fun a hE => by
    have h1 : 0 ≤ i.tmod j := Int.tmod_nonneg _ hb.1
    have h2 : i.tmod j < j := Int.tmod_lt_of_pos _ hj.1
    unfold execOp; dsimp only; rw [Sem.run_bind, evV_eval hE hx, evV_eval hE hy]; simp [binOp_rem, eqGuard_at_int, Op.intDiv, show j ≠ 0 by omega]) h
theorem m_eql {x y : Operand} {k : IntKind} {i j : Int} {T U : TypeId} (hx : evV E x = some (.int k i)) (hy : evV E y = some (.int k j)) (ht : t < n) (h : OpsM P n ops l ((t, .bool (i == j)) :: E) w K) :
    OpsM P n ops (⟨some t, .binOp .eql T x y U, ty, pos, aft, none⟩ :: l) E w K :=
  m_val ht (fun a hE => by unfold execOp; dsimp only; rw [Sem.run_bind, evV_eval hE hx, evV_eval hE hy]; simp [binOp_eql, eqGuard_at_int]) h
theorem m_neqB {x y : Operand} {i j : Bool} {T U : TypeId} (hx : evV E x = some (.bool i)) (hy : evV E y = some (.bool j)) (hu : P.underlying T = some .bool) (ht : t < n) (h : OpsM P n ops l ((t, .bool (!(i == j))) :: E) w K) :
    OpsM P n ops (⟨some t, .binOp .neq T x y U, ty, pos, aft, none⟩ :: l) E w K :=
  m_val ht (fun a hE => by unfold execOp; dsimp only; rw [Sem.run_bind, evV_eval hE hx, evV_eval hE hy]; simp [eqGuard_at_bool, run_neq_bool w T _ _ hu]) h
theorem m_indexAddr {x y : Operand} {b o m c i z : Nat} {T e : TypeId} (hx : evV E x = some (.slice (some ⟨b, o, none⟩) m c)) (hy : evV E y = some (.int .i64 i)) (hu : P.underlying T = some (.slice e)) (hz : ∀ w, (sizeOf e).run P w = .ok z w) (hi : i < m) (ht : t < n)
    (h : OpsM P n ops l ((t, .pointer (some ⟨b, o + i * z, none⟩)) :: E) w K) : OpsM P n ops (⟨some t, .indexAddr T x y, ty, pos, aft, none⟩ :: l) E w K :=
  m_val ht (fun a hE => by
    simp [execOp, evV_eval hE hx, evV_eval hE hy, Instr.indexAt, asIntOf, run_underlying hu, hz, hi, add_mk]) h
theorem m_fieldAddr {S : Setup} (hP : S.P = P) {x : Operand} {b o f : Nat} {T : TypeId} {fs : List (Nat × TypeId)} {p : Nat × TypeId} {j : TyI} (hx : evV E x = some (.pointer (some ⟨b, o, none⟩))) (hk : S.kd T = some (.struct fs)) (hp : fs[f]? = some p) (hj : S.tab p.2 = some j) (hne : j.size ≠ 0) (ht : t < n)
    (h : OpsM P n ops l ((t, .pointer (some ⟨b, o + p.1, none⟩)) :: E) w K) : OpsM P n ops (⟨some t, .fieldAddr T x f, ty, pos, aft, none⟩ :: l) E w K := by
  subst hP
  refine m_val ht (fun a hE => ?_) h
  obtain ⟨fields, hu, hfs, _⟩ := kd_struct hk
  obtain ⟨fl, hf, ho, hty⟩ := fields_get hfs hp
  have hok := S.ok p.2 j hj
  have hsz : (sizeOf fl.type).run S.P w = .ok j.size w := by rw [hty]; exact run_sizeOf hok w
  simp [execOp, evV_eval hE hx, Instr.fieldAt, run_underlying hu, hf, Instr.sureAddr, fieldPlace, hsz, hne, add_mk, ho]
theorem m_load {S : Setup} (hP : S.P = P) {x : Operand} {b o : Nat} {v : Value} {T : TypeId} {j : TyI} (hx : evV E x = some (.pointer (some ⟨b, o, none⟩))) (hj : S.tab T = some j) (ha : j.agg = false) (hv : cellAt w b o = some v) (ht : t < n)
    (h : OpsM P n ops l ((t, v) :: E) w K) : OpsM P n ops (⟨some t, .load T x, ty, pos, aft, none⟩ :: l) E w K := by
  subst hP
  refine m_val ht (fun a hE => ?_) h
  have hok := S.ok T j hj
  have hv' : w.cell? ⟨b, o, none⟩ = some v := hv
  simp [execOp, evV_eval hE hx, Instr.loadAt, Instr.sureAddr, loadVar, run_isAgg hok, ha, hv']
theorem m_loadA {S : Setup} (hP : S.P = P) {x : Operand} {b o : Nat} {vs : List Value} {T : TypeId} {j : TyI} (hx : evV E x = some (.pointer (some ⟨b, o, none⟩))) (hj : S.tab T = some j) (ha : j.agg = true) (hl : vs.length = j.size) (hv : ∀ (i : Nat) v, vs[i]? = some v → cellAt w b (o + i) = some v) (ht : t < n)
    (h : OpsM P n ops l ((t, .agg vs.toArray) :: E) w K) : OpsM P n ops (⟨some t, .load T x, ty, pos, aft, none⟩ :: l) E w K := by
  subst hP
  refine m_val ht (fun a hE => ?_) h
  have hok := S.ok T j hj
  have := run_loadCells_list (P := S.P) w ⟨b, o, none⟩ vs (fun i v hi => by rw [Addr.add_lit]; exact hv i v hi)
  rw [hl] at this
  simp [execOp, evV_eval hE hx, Instr.loadAt, Instr.sureAddr, loadVar, run_isAgg hok, ha, run_sizeOf hok, this]
theorem m_store {S : Setup} (hP : S.P = P) {x y : Operand} {b o : Nat} {m : Int} {T : TypeId} {j : TyI} (hx : evV E x = some (.pointer (some ⟨b, o, none⟩))) (hy : evV E y = some (.int .i64 m)) (hj : S.tab T = some j) (hs : j.size = 1) (hw : Wr w (b, o)) {m0 : Int} (hc : cellAt w b o = some (.int .i64 m0))
    (h : OpsM P n ops l E (wr w (b, o) m) K) : OpsM P n ops (⟨none, .store T x y, ty, pos, aft, none⟩ :: l) E w K := by
  subst hP
  intro a hE Q hQ
  refine wpList_step fun N hN => ?_
  rw [if_pos (show Region.wanted ⟨none, .store T x y, ty, pos, aft, none⟩ (yielded ops a.tmps) = true from rfl)]
  have hsz := run_sizeOf (S.ok T j hj) w
  obtain ⟨vs, e, h1, h2⟩ := hw
  have hrow := run_storeCells_at (P := S.P) b o e [Value.int .i64 m] 0 vs w h1 (by simp; omega) (by simp [Value.oneCell'])
  simp only [Nat.add_zero, List.length_singleton] at hrow
  have hmk : mkV (vs.getD o undef) m = Value.int .i64 m := by
    rw [cellAt_row h1] at hc
    simp [Array.getD_eq_getD_getElem?, hc, mkV]
  have hwr := wr_eq (n := m) (p := (b, o)) h1
  dsimp only at hwr
  rw [hmk] at hwr
  rw [← hwr] at hrow
  have hr : (execOp a.eval ⟨none, .store T x y, ty, pos, aft, none⟩).run S.P w = .ok .skip (wr w (b, o) m) := by
    simp [execOp, evV_eval hE hx, evV_eval hE hy, Instr.storeAt, Instr.sureAddr, storeVar, hsz, hs, Value.cells, hrow]
  unfold Oper.wp
  rw [hr]
  exact hN _ _ (h _ hE Q hQ)
theorem m_storeB {S : Setup} (hP : S.P = P) {x y : Operand} {b o : Nat} {m : Int} {cc : Bool} {T : TypeId} {j : TyI} (hx : evV E x = some (.pointer (some ⟨b, o, none⟩))) (hy : evV E y = some (.bool cc)) (hcc : cc = (m.tmod 3 == 0)) (hj : S.tab T = some j) (hs : j.size = 1) (hw : Wr w (b, o)) {m0 : Bool} (hc : cellAt w b o = some (.bool m0))
    (h : OpsM P n ops l E (wr w (b, o) m) K) : OpsM P n ops (⟨none, .store T x y, ty, pos, aft, none⟩ :: l) E w K := by
  subst hP
  intro a hE Q hQ
  refine wpList_step fun N hN => ?_
  rw [if_pos (show Region.wanted ⟨none, .store T x y, ty, pos, aft, none⟩ (yielded ops a.tmps) = true from rfl)]
  have hsz := run_sizeOf (S.ok T j hj) w
  obtain ⟨vs, e, h1, h2⟩ := hw
  have hrow := run_storeCells_at (P := S.P) b o e [Value.bool cc] 0 vs w h1 (by simp; omega) (by simp [Value.oneCell'])
  simp only [Nat.add_zero, List.length_singleton] at hrow
  have hmk : mkV (vs.getD o undef) m = Value.bool cc := by
    rw [cellAt_row h1] at hc
    simp [Array.getD_eq_getD_getElem?, hc, mkV, hcc]
  have hwr := wr_eq (n := m) (p := (b, o)) h1
  dsimp only at hwr
  rw [hmk] at hwr
  rw [← hwr] at hrow
  have hr : (execOp a.eval ⟨none, .store T x y, ty, pos, aft, none⟩).run S.P w = .ok .skip (wr w (b, o) m) := by
    simp [execOp, evV_eval hE hx, evV_eval hE hy, Instr.storeAt, Instr.sureAddr, storeVar, hsz, hs, Value.cells, hrow]
  unfold Oper.wp
  rw [hr]
  exact hN _ _ (h _ hE Q hQ)
theorem m_box {x : Operand} {vs : List Value} {T : TypeId} (hx : evV E x = some (.agg vs.toArray)) (ht : t < n) (h : OpsM P n ops l ((t, .pointer (some ⟨w.heap.size, 0, none⟩)) :: E) (w.alloc (.cells vs.toArray T)) K) :
    OpsM P n ops (⟨some t, .box T x, ty, pos, aft, none⟩ :: l) E w K :=
  m_val ht (fun a hE => by simp [execOp, evV_eval hE hx, Instr.box, newVar, newRow, Value.cells]) h
theorem m_call {f : FuncId} {x y : Operand} {u v : Value} {tys : Array TypeId} {R : Ending → World → Prop} (he : Enters P f) (hx : evV E x = some u) (hy : evV E y = some v) (hC : Calls P f #[u, v] w R) (ht : t < n)
    (h : ∀ e w', R e w' → ∃ d, e = .returned d ∧ OpsM P n ops l ((t, d) :: E) w' K) : OpsM P n ops (⟨some t, .call ⟨.value (.func f), #[x, y], tys⟩, ty, pos, aft, none⟩ :: l) E w K := by
  intro a hE Q hQ
  refine wpList_step fun N hN => ?_
  rw [if_pos (show Region.wanted ⟨some t, .call ⟨.value (.func f), #[x, y], tys⟩, ty, pos, aft, none⟩ (yielded ops a.tmps) = true from rfl)]
  have hrun : (execOp a.eval ⟨some t, .call ⟨.value (.func f), #[x, y], tys⟩, ty, pos, aft, none⟩).run P w = .ok (.enter f #[u, v]) w := by
    simp [execOp, resolve, Act.eval, Deferred.ofValue, invoke, enter_run he]
    simp [← evV_eval hE hx, ← evV_eval hE hy, Act.eval]
  unfold Oper.wp
  rw [hrun, Oper.upon_enter]
  refine hC.mono fun e w' hR => ?_
  obtain ⟨d, rfl, h'⟩ := h e w' hR
  exact hN _ _ (h' _ (hE.put ht d) Q hQ)
end ops

/-! Control. -/
inductive MItem where
  | code (c : Code)
  | inBlock (id : Nat)
  | loopEnd (J : List (Nat × Value) → World → Prop)
def semM (P : Program) (n : Nat) (R : List (Nat × Value) → World → Prop) : List MItem → Exit → Act → World → Prop
  | [] => fun e a w => (e = .normal ∨ e = .ret) ∧ ∃ E, ME n E a ∧ R E w
  | .inBlock id :: k => Exit.inBlock id (semM P n R k)
  | .loopEnd J :: k => Exit.then (fun a w => ∃ E, ME n E a ∧ J E w) (semM P n R k)
  | .code c :: k => Exit.then (fun a w => c.wp P (semM P n R k) a w) (semM P n R k)
def SM (P : Program) (n : Nat) (R : List (Nat × Value) → World → Prop) (k : List MItem) (E : List (Nat × Value)) (w : World) : Prop := ∀ a, ME n E a → semM P n R k .normal a w

section ctl
variable {P : Program} {n : Nat} {R : List (Nat × Value) → World → Prop} {k : List MItem} {E : List (Nat × Value)} {w : World}
theorem sm_seq {x y : Code} (h : SM P n R (.code x :: .code y :: k) E w) : SM P n R (.code (.seq x y) :: k) E w := fun a hE => wp_seq (h a hE)
theorem sm_block {id : Nat} {c : Code} (h : SM P n R (.code c :: .inBlock id :: k) E w) : SM P n R (.code (.block id c) :: k) E w := fun a hE => wp_block (h a hE)
theorem sm_skip (h : SM P n R k E w) : SM P n R (.code .skip :: k) E w := fun a hE => wp_skip (h a hE)
theorem sm_inBlock {id : Nat} (h : SM P n R k E w) : SM P n R (.inBlock id :: k) E w := fun a hE => h a hE
theorem sm_loopEnd {J : List (Nat × Value) → World → Prop} (h : J E w) : SM P n R (.loopEnd J :: k) E w := fun _ hE => ⟨E, hE, h⟩
theorem sm_cond {c : Operand} {x y : Code} {b : Bool} (hc : evV E c = some (.bool b)) (h1 : b = true → SM P n R (.code x :: k) E w) (h0 : b = false → SM P n R (.code y :: k) E w) : SM P n R (.code (.cond c x y) :: k) E w := fun a hE =>
  wp_cond_split (evV_eval hE hc) (fun hb => h1 hb a hE) (fun hb => h0 hb a hE)
theorem semM_ret {a : Act} (hE : ME n E a) (h : R E w) : ∀ k : List MItem, semM P n R k .ret a w
  | [] => ⟨.inr rfl, E, hE, h⟩
  | .inBlock _ :: k => semM_ret hE h k
  | .loopEnd _ :: k => semM_ret hE h k
  | .code _ :: k => semM_ret hE h k
theorem sm_ret (h : R E w) : SM P n R (.code .ret :: k) E w := fun _ hE => wp_ret (semM_ret hE h k)
def exitM (id : Nat) : List MItem → Option (List MItem)
  | [] => none
  | .inBlock id' :: k => if id = id' then some k else exitM id k
  | .loopEnd _ :: k => exitM id k
  | .code _ :: k => exitM id k
theorem semM_exit {id : Nat} {a : Act} : ∀ {k k' : List MItem}, exitM id k = some k' → semM P n R k' .normal a w → semM P n R k (.exit id) a w
  | [], _, h, _ => by cases h
  | .inBlock id' :: k, k', h, hk => by
    simp only [exitM] at h
    show Exit.inBlock id' (semM P n R k) (.exit id) a w
    simp only [Exit.inBlock]
    split at h
    · rename_i he
      rw [if_pos he]
      obtain rfl := Option.some.inj h
      exact hk
    · rename_i he
      rw [if_neg he]
      exact semM_exit h hk
  | .loopEnd _ :: k, _, h, hk => semM_exit (k := k) h hk
  | .code _ :: k, _, h, hk => semM_exit (k := k) h hk
theorem sm_exit {id : Nat} {k' : List MItem} (he : exitM id k = some k') (h : SM P n R k' E w) : SM P n R (.code (.exit id) :: k) E w := fun a hE => wp_exit (semM_exit he (h a hE))
theorem sm_region {id : Nat} {l : List Oper} (h : OpsM P n l.toArray l E w fun E' w' => SM P n R k E' w') : SM P n R (.code (.region id l.toArray false) :: k) E w := fun a hE =>
  wp_region_lit (h a hE _ fun _ a' _ hK hE' => hK a' hE')
/-- Knowing less. -/
def coversM (E E' : List (Nat × Value)) : Prop := ∀ p ∈ E', look E p.1 = some p.2
theorem ME.less {E' : List (Nat × Value)} {a : Act} (h : ME n E a) (hc : coversM E E') : ME n E' a := ⟨h.defers, h.size, fun t v hv => h.env t v (hc (t, v) (mem_of_look hv))⟩
theorem sm_weak {E' : List (Nat × Value)} (hc : coversM E E') (h : SM P n R k E' w) : SM P n R k E w := fun a hE => h a (hE.less hc)
/-- A loop that counts up to N. -/
theorem sm_loop (F : Nat → List (Nat × Value)) (W : Nat → World) (N : Nat) {c : Code} (hc : coversM E (F 0)) (hw : w = W 0)
    (round : ∀ i, i ≤ N → SM P n R (.code c :: .loopEnd (fun E' w' => i < N ∧ coversM E' (F (i + 1)) ∧ w' = W (i + 1)) :: k) (F i) (W i)) : SM P n R (.code (.loop c) :: k) E w := fun a hE => by
  refine wp_loop_ghost (fun m a w => ∃ i, N - i = m ∧ i ≤ N ∧ ME n (F i) a ∧ w = W i) (N - 0) ⟨0, rfl, Nat.zero_le _, hE.less hc, hw⟩ ?_
  rintro m a w ⟨i, rfl, hi, hs, rfl⟩
  refine wp_mono (round i hi a hs) fun e a' w' h => ?_
  cases e with
  | normal =>
    obtain ⟨E', hs', h1, h2, h3⟩ := h
    exact ⟨N - (i + 1), by omega, i + 1, rfl, h1, hs'.less h2, h3⟩
  | _ => exact h
end ctl

def enumV : Nat → List Value → List (Nat × Value)
  | _, [] => []
  | k, d :: ds => (k, d) :: enumV (k + 1) ds
theorem look_enumV (ds : List Value) : ∀ (k t : Nat), look (enumV k ds) t = if k ≤ t then ds[t - k]? else none := by
  induction ds with
  | nil => intro k t; simp [enumV, look]
  | cons d ds ih =>
    intro k t
    simp only [enumV, look, ih]
    by_cases h : k = t
    · subst h; simp
    · by_cases h2 : k ≤ t
      · rw [if_neg h, if_pos h2, if_pos (by omega), show t - k = (t - (k + 1)) + 1 by omega]
        simp
      · rw [if_neg h, if_neg h2, if_neg (by omega)]
theorem calls_of_sm {P : Program} {f : FuncId} {fn : Func} {c : Code} {R : List (Nat × Value) → World → Prop} {Rx : Ending → World → Prop} {w : World} {vals : List Value} {t : Nat}
    (hf : P.funcs[f]? = some fn) (hb : fn.body = some c) (hn : vals.length ≤ fn.ntmps) (hres : fn.results = #[.tmp t])
    (h : SM P fn.ntmps R [.code c] (enumV 0 vals) w)
    (hR : ∀ E' w', R E' w' → ∃ v, look E' t = some v ∧ Rx (.returned v) w') : Calls P f vals.toArray w Rx := by
  refine calls_of_wp hf hb (wp_mono (h _ ⟨rfl, ?_, fun t v hv => ?_⟩) ?_)
  · simp; omega
  · rw [look_enumV] at hv
    simp only [Nat.zero_le, if_true, Nat.sub_zero] at hv
    have hlt : t < vals.length := (List.getElem?_eq_some_iff.1 hv).1
    simp only
    rw [Array.getElem?_append_left (by simpa using hlt)]
    simpa using hv
  · intro e a' w' he
    have key : ∀ E', ME fn.ntmps E' a' → R E' w' → a'.defers = [] ∧ ∃ v, (results fn a'.tmps).run P w' = .ok v w' ∧ Rx (.returned v) w' := fun E' hE' hr => by
      obtain ⟨v, h1, h2⟩ := hR E' w' hr
      refine ⟨hE'.defers, v, ?_, h2⟩
      have := hE'.env t v h1
      simp [results, hres, this]
    cases e with
    | normal => obtain ⟨_, E', h1, h2⟩ := he; exact key E' h1 h2
    | ret => obtain ⟨_, E', h1, h2⟩ := he; exact key E' h1 h2
    | _ => obtain ⟨h0 | h0, _⟩ := he <;> cases h0
end Go.Lg
