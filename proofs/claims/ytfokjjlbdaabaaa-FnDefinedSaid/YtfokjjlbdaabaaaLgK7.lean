/-
  Lg: LgMk, LgMk3, LgMk7, LgEmp, LgDraw6, LgBsOwn, LgSortA, LgRelab, LgSafe, one behind the other.
-/
import Derived.Test.YtfokjjlbdaabaaaLgK6
import Derived.Test.YtfokjjlbdaabaaaLgK4
import Derived.Test.YtfokjjlbdaabaaaLgK5
import Derived.Sort.Grow
import Derived.Deep.Draws
/-
  Lg, part 32: marks: the int cells that a value reaches, as a list of places; writing them one behind the other; the readings that stand.
-/
namespace Go.Lg
open Go Go.RowKit

/-! A list shape: what lies in the cells of an element, one behind the other: a marked int, something that is not marked, a list. -/
mutual
inductive Sh where
  | slc (fs : Fs)
inductive Fs where
  | nil
  | cell (r : Fs)
  | flag (r : Fs)
  | skip (r : Fs)
  | sub (s : Sh) (r : Fs)
end
def Fs.len : Fs → Nat
  | .nil => 0
  | .cell r => r.len + 1
  | .flag r => r.len + 1
  | .skip r => r.len + 1
  | .sub _ r => r.len + 1

def cellAt (w : World) (b o : Nat) : Option Value := w.cell? ⟨b, o, none⟩
/-- A marked cell: an int, or a bool. -/
def Mkd (v : Value) : Prop := (∃ m, v = .int .i64 m) ∨ ∃ c, v = .bool c
/-- What mark n is, written over v. -/
def mkV : Value → Int → Value
  | .bool _, n => .bool (n.tmod 3 == 0)
  | _, n => .int .i64 n
def MkC (w : World) (p : Nat × Nat) : Prop := ∃ v, Mkd v ∧ cellAt w p.1 p.2 = some v
/-- Cell p bears mark n. -/
def HvC (w : World) (p : Nat × Nat) (n : Int) : Prop := ∃ v, Mkd v ∧ cellAt w p.1 p.2 = some (mkV v n)
theorem mkV_mkV {v : Value} (n m : Int) (h : Mkd v) : mkV (mkV v n) m = mkV v m := by
  rcases h with ⟨m, rfl⟩ | ⟨c, rfl⟩ <;> rfl
theorem MkC.int {w : World} {b o : Nat} {m : Int} (h : cellAt w b o = some (.int .i64 m)) : MkC w (b, o) := ⟨_, .inl ⟨m, rfl⟩, h⟩
theorem MkC.bool {w : World} {b o : Nat} {c : Bool} (h : cellAt w b o = some (.bool c)) : MkC w (b, o) := ⟨_, .inr ⟨c, rfl⟩, h⟩
theorem HvC.int {w : World} {p : Nat × Nat} {n m : Int} (h : HvC w p n) (hm : cellAt w p.1 p.2 = some (.int .i64 m)) : cellAt w p.1 p.2 = some (.int .i64 n) := by
  obtain ⟨v, h1, h2⟩ := h
  rw [h2] at hm ⊢
  rcases h1 with ⟨m', rfl⟩ | ⟨c, rfl⟩
  · rfl
  · simp [mkV] at hm
theorem HvC.bool {w : World} {p : Nat × Nat} {n : Int} {c : Bool} (h : HvC w p n) (hm : cellAt w p.1 p.2 = some (.bool c)) : cellAt w p.1 p.2 = some (.bool (n.tmod 3 == 0)) := by
  obtain ⟨v, h1, h2⟩ := h
  rw [h2] at hm ⊢
  rcases h1 with ⟨m', rfl⟩ | ⟨c, rfl⟩
  · simp [mkV] at hm
  · rfl

/-! 'v' is a list of this shape; 'as': the places of its int cells, in the order of the marks. -/
mutual
def Lv (lim : Nat → Nat) (w : World) : Sh → Value → List (Nat × Nat) → Prop
  | .slc fs, v, as => ∃ A n c b o, v = .slice A n c ∧ n ≤ maxLen ∧ (n = 0 ∨ A = some ⟨b, o, none⟩) ∧ ∃ ass : List (List (Nat × Nat)), ass.length = n ∧ as = ass.flatten ∧ ∀ i l, ass[i]? = some l → LvF lim w fs b (o + i * fs.len) l
def LvF (lim : Nat → Nat) (w : World) : Fs → Nat → Nat → List (Nat × Nat) → Prop
  | .nil, _, _, as => as = []
  | .cell r, b, o, as => ∃ l, as = (b, o) :: l ∧ o < lim b ∧ (∃ m, cellAt w b o = some (.int .i64 m)) ∧ LvF lim w r b (o + 1) l
  | .flag r, b, o, as => ∃ l, as = (b, o) :: l ∧ o < lim b ∧ (∃ c, cellAt w b o = some (.bool c)) ∧ LvF lim w r b (o + 1) l
  | .skip r, b, o, as => LvF lim w r b (o + 1) as
  | .sub s r, b, o, as => ∃ v l1 l2, as = l1 ++ l2 ∧ o < lim b ∧ cellAt w b o = some v ∧ Lv lim w s v l1 ∧ LvF lim w r b (o + 1) l2
end
/-- .. of a struct that is no memory. -/
def LvA (lim : Nat → Nat) (w : World) : Fs → List Value → List (Nat × Nat) → Prop
  | .nil, _, as => as = []
  | .cell _, _, _ => False
  | .flag _, _, _ => False
  | .skip r, vs, as => LvA lim w r vs.tail as
  | .sub s r, vs, as => ∃ v l1 l2, as = l1 ++ l2 ∧ vs.head? = some v ∧ Lv lim w s v l1 ∧ LvA lim w r vs.tail l2

/-- What may change: a mark for a marked cell. -/
def IntW (lim lim' : Nat → Nat) (w w' : World) : Prop := ∀ b o v, o < lim b → cellAt w b o = some v → o < lim' b ∧ (cellAt w' b o = some v ∨ Mkd v ∧ ∃ n, cellAt w' b o = some (mkV v n))

theorem Lv.slice {lim : Nat → Nat} {w : World} : ∀ {s : Sh} {v as}, Lv lim w s v as → ∃ A n c, v = .slice A n c
  | .slc _, _, _, h => by unfold Lv at h; obtain ⟨A, n, c, _, _, h, _⟩ := h; exact ⟨A, n, c, h⟩

mutual
theorem Lv.mono {lim lim' : Nat → Nat} {w w' : World} (hw : IntW lim lim' w w') : ∀ (s : Sh) (v : Value) (as : List (Nat × Nat)), Lv lim w s v as → Lv lim' w' s v as
  | .slc fs, v, as, h => by
    unfold Lv at h ⊢
    obtain ⟨A, n, c, b, o, h1, h2, h3, ass, h4, h5, h6⟩ := h
    exact ⟨A, n, c, b, o, h1, h2, h3, ass, h4, h5, fun i l hi => LvF.mono hw fs b _ l (h6 i l hi)⟩
theorem LvF.mono {lim lim' : Nat → Nat} {w w' : World} (hw : IntW lim lim' w w') : ∀ (fs : Fs) (b o : Nat) (as : List (Nat × Nat)), LvF lim w fs b o as → LvF lim' w' fs b o as
  | .nil, _, _, as, h => by unfold LvF at h ⊢; exact h
  | .cell r, b, o, as, h => by
    unfold LvF at h ⊢
    obtain ⟨l, h1, h2, ⟨m, h3⟩, h4⟩ := h
    obtain ⟨q1, q2⟩ := hw b _ _ h2 h3
    refine ⟨l, h1, q1, ?_, LvF.mono hw r b _ l h4⟩
    rcases q2 with q2 | ⟨_, m', q2⟩
    · exact ⟨m, q2⟩
    · exact ⟨m', q2⟩
  | .flag r, b, o, as, h => by
    unfold LvF at h ⊢
    obtain ⟨l, h1, h2, ⟨m, h3⟩, h4⟩ := h
    obtain ⟨q1, q2⟩ := hw b _ _ h2 h3
    refine ⟨l, h1, q1, ?_, LvF.mono hw r b _ l h4⟩
    rcases q2 with q2 | ⟨_, m', q2⟩
    · exact ⟨m, q2⟩
    · exact ⟨_, q2⟩
  | .skip r, b, o, as, h => by
    unfold LvF at h ⊢
    exact LvF.mono hw r b _ as h
  | .sub s r, b, o, as, h => by
    unfold LvF at h ⊢
    obtain ⟨v, l1, l2, h1, h2, h3, h4, h5⟩ := h
    obtain ⟨q1, q2⟩ := hw b _ _ h2 h3
    refine ⟨v, l1, l2, h1, q1, ?_, Lv.mono hw s v l1 h4, LvF.mono hw r b _ l2 h5⟩
    rcases q2 with q2 | ⟨q2, _⟩
    · exact q2
    · obtain ⟨A, n, c, e⟩ := h4.slice
      rw [e] at q2
      rcases q2 with ⟨m, q2⟩ | ⟨m, q2⟩ <;> cases q2
end
theorem LvA.mono {lim lim' : Nat → Nat} {w w' : World} (hw : IntW lim lim' w w') : ∀ (fs : Fs) (vs : List Value) (as : List (Nat × Nat)), LvA lim w fs vs as → LvA lim' w' fs vs as
  | .nil, _, as, h => by unfold LvA at h ⊢; exact h
  | .cell _, _, _, h => by unfold LvA at h; exact h.elim
  | .flag _, _, _, h => by unfold LvA at h; exact h.elim
  | .skip r, vs, as, h => by
    unfold LvA at h ⊢
    exact LvA.mono hw r _ as h
  | .sub s r, vs, as, h => by
    unfold LvA at h ⊢
    obtain ⟨v, l1, l2, h1, h2, h3, h4⟩ := h
    exact ⟨v, l1, l2, h1, h2, Lv.mono hw s v l1 h3, LvA.mono hw r _ l2 h4⟩

mutual
theorem Lv.ints {lim : Nat → Nat} {w : World} : ∀ (s : Sh) (v : Value) (as : List (Nat × Nat)), Lv lim w s v as → ∀ p ∈ as, p.2 < lim p.1 ∧ MkC w p
  | .slc fs, v, as, h => by
    unfold Lv at h
    obtain ⟨A, n, c, b, o, h1, h2, h3, ass, h4, h5, h6⟩ := h
    intro p hp
    rw [h5, List.mem_flatten] at hp
    obtain ⟨l, hl, hp⟩ := hp
    obtain ⟨i, hi⟩ := List.getElem?_of_mem hl
    exact LvF.ints fs b _ l (h6 i l hi) p hp
theorem LvF.ints {lim : Nat → Nat} {w : World} : ∀ (fs : Fs) (b o : Nat) (as : List (Nat × Nat)), LvF lim w fs b o as → ∀ p ∈ as, p.2 < lim p.1 ∧ MkC w p
  | .nil, _, _, as, h => by unfold LvF at h; subst h; simp
  | .cell r, b, o, as, h => by
    unfold LvF at h
    obtain ⟨l, h1, h2, h3, h4⟩ := h
    subst h1
    intro p hp
    rcases List.mem_cons.1 hp with rfl | hp
    · obtain ⟨m, h3⟩ := h3; exact ⟨h2, MkC.int h3⟩
    · exact LvF.ints r b _ l h4 p hp
  | .flag r, b, o, as, h => by
    unfold LvF at h
    obtain ⟨l, h1, h2, h3, h4⟩ := h
    subst h1
    intro p hp
    rcases List.mem_cons.1 hp with rfl | hp
    · obtain ⟨m, h3⟩ := h3; exact ⟨h2, MkC.bool h3⟩
    · exact LvF.ints r b _ l h4 p hp
  | .skip r, b, o, as, h => by
    unfold LvF at h
    exact LvF.ints r b _ as h
  | .sub s r, b, o, as, h => by
    unfold LvF at h
    obtain ⟨v, l1, l2, h1, h2, h3, h4, h5⟩ := h
    subst h1
    intro p hp
    rcases List.mem_append.1 hp with hp | hp
    · exact Lv.ints s v l1 h4 p hp
    · exact LvF.ints r b _ l2 h5 p hp
end
theorem LvA.ints {lim : Nat → Nat} {w : World} : ∀ (fs : Fs) (vs : List Value) (as : List (Nat × Nat)), LvA lim w fs vs as → ∀ p ∈ as, p.2 < lim p.1 ∧ MkC w p
  | .nil, _, as, h => by unfold LvA at h; subst h; simp
  | .cell _, _, _, h => by unfold LvA at h; exact h.elim
  | .flag _, _, _, h => by unfold LvA at h; exact h.elim
  | .skip r, vs, as, h => by
    unfold LvA at h
    exact LvA.ints r _ as h
  | .sub s r, vs, as, h => by
    unfold LvA at h
    obtain ⟨v, l1, l2, h1, h2, h3, h4⟩ := h
    subst h1
    intro p hp
    rcases List.mem_append.1 hp with hp | hp
    · exact Lv.ints s v l1 h3 p hp
    · exact LvA.ints r _ l2 h4 p hp

/-! Writing. -/
end Go.Lg
/-
  Lg, part 33: a labelled tree's int cells are places apart from each other; what bears other labels stands when they are written.
-/
namespace Go.Lg
open Go Go.RowKit

def Tk.still : Tk → Bool
  | .own .. => false
  | _ => true
def D.plain : D → Bool
  | .int .. | .bool _ | .str _ => true
  | _ => false
/-! 'd' reads as a list of this shape, whose every block bears a label of its own (beginning with 'p'); 'n' marked ints. -/
mutual
def LT : Sh → List Nat → D → Nat → Prop
  | .slc fs, p, d, n => ∃ (tk : Tk) (xs : List D) (ns : List Nat), d = .sl tk xs ∧ tk.still = true ∧ (xs = [] ∨ tk = .lab p) ∧ ns.length = xs.length ∧ n = ns.sum ∧ ∀ (i : Nat) x m, xs[i]? = some x → ns[i]? = some m → LF fs (p ++ [i]) 0 x.cells m
def LF : Fs → List Nat → Nat → List D → Nat → Prop
  | .nil, _, _, cs, n => n = 0 ∧ cs = []
  | .cell r, p, j, cs, n => ∃ m k t, cs = .int .i64 m :: t ∧ n = k + 1 ∧ LF r p (j + 1) t k
  | .flag r, p, j, cs, n => ∃ c k t, cs = .bool c :: t ∧ n = k + 1 ∧ LF r p (j + 1) t k
  | .skip r, p, j, cs, n => ∃ c t, cs = c :: t ∧ c.plain = true ∧ LF r p (j + 1) t n
  | .sub s r, p, j, cs, n => ∃ d k1 k2 t, cs = d :: t ∧ n = k1 + k2 ∧ LT s (p ++ [j]) d k1 ∧ LF r p (j + 1) t k2
end
theorem LF.len : ∀ (fs : Fs) (p : List Nat) (j : Nat) (cs : List D) (n : Nat), LF fs p j cs n → cs.length = fs.len
  | .nil, _, _, _, _, h => by unfold LF at h; rw [h.2]; rfl
  | .cell r, p, j, cs, n, h => by
    unfold LF at h
    obtain ⟨m, k, t, rfl, _, h⟩ := h
    simp [Fs.len, LF.len r p _ t k h]
  | .flag r, p, j, cs, n, h => by
    unfold LF at h
    obtain ⟨m, k, t, rfl, _, h⟩ := h
    simp [Fs.len, LF.len r p _ t k h]
  | .skip r, p, j, cs, n, h => by
    unfold LF at h
    obtain ⟨c, t, rfl, _, h⟩ := h
    simp [Fs.len, LF.len r p _ t n h]
  | .sub s r, p, j, cs, n, h => by
    unfold LF at h
    obtain ⟨d, k1, k2, t, rfl, _, _, h⟩ := h
    simp [Fs.len, LF.len r p _ t k2 h]

theorem plain_rel {G G' : Ghost} {w w' : World} {d : D} {v : Value} (h : d.plain = true) (hr : Rel G w d v) : Rel G' w' d v := by
  cases d <;> simp [D.plain] at h <;> cases hr
  · exact .int
  · exact .bool
  · exact .str

/-- The j-th cell of element i. -/
theorem flat_elem {s : Nat} {xs : List D} (h : ∀ x ∈ xs, x.cells.length = s) {q : Nat} {d : D} (hq : (flat xs)[q]? = some d) : ∃ i j x, xs[i]? = some x ∧ x.cells[j]? = some d ∧ q = i * s + j ∧ j < s := by
  induction xs generalizing q with
  | nil => simp [flat] at hq
  | cons x xs ih =>
    rw [flat_cons] at hq
    have hx := h x List.mem_cons_self
    by_cases hl : q < x.cells.length
    · rw [List.getElem?_append_left hl] at hq
      exact ⟨0, q, x, rfl, hq, by omega, by omega⟩
    · rw [List.getElem?_append_right (by omega)] at hq
      obtain ⟨i, j, y, h1, h2, h3, h4⟩ := ih (fun y hy => h y (List.mem_cons_of_mem _ hy)) hq
      refine ⟨i + 1, j, y, by simpa using h1, h2, ?_, h4⟩
      rw [Nat.add_mul]; omega

mutual
theorem LT.keeps {G : Ghost} {w w' : World} : ∀ (s : Sh) (q : List Nat) (d : D) (n : Nat), LT s q d n → q ≠ [] → (∀ b o v, q <+: G.lab b → cellAt w b o = some v → cellAt w' b o = some v) → ∀ v, Rel G w d v → Rel G w' d v
  | .slc fs, q, d, n, h, hq0, hf, v, hr => by
    unfold LT at h
    obtain ⟨tk, xs, ns, rfl, ht, hx, hn, _, hel⟩ := h
    cases hr with
    | @sl _ _ A m c b o s hlen hc hm htk hA hu hk hst hrr =>
    have htk' : TkOk G w' tk xs A m c := by
      cases tk <;> first | exact htk | (simp [Tk.still] at ht)
    by_cases hxs : xs = []
    · subst hxs
      exact .sl (b := b) (o := o) (s := s) hlen hc hm htk' (.inl rfl) hu hk (by simp [flat]) (by simp [flat])
    · obtain rfl : tk = .lab q := hx.resolve_left hxs
      obtain ⟨g, o', e1, e2, _⟩ := htk.resolve_left hxs
      have hA' := hA.resolve_left hxs
      rw [e1] at hA'
      obtain ⟨rfl, rfl⟩ : g = b ∧ o' = o := by simpa using hA'
      refine .sl (b := g) (o := o') (s := s) hlen hc hm htk' hA hu hk (fun j d hj => ?_) (fun j d u hj hu' => ?_)
      · obtain ⟨h1, u, h2⟩ := hst j d hj
        exact ⟨h1, u, hf g _ u (e2 ▸ List.prefix_refl _) h2⟩
      · obtain ⟨h1, u', h2⟩ := hst j d hj
        have h3 := hf g _ u' (e2 ▸ List.prefix_refl _) h2
        rw [show cellAt w' g (o' + j) = some u from hu'] at h3
        obtain rfl := Option.some.inj h3
        obtain ⟨i, j', x, k1, k2, k3, k4⟩ := flat_elem hu hj
        have hi : i < ns.length := by rw [hn]; exact (List.getElem?_eq_some_iff.1 k1).1
        exact LF.keeps fs (q ++ [i]) 0 x.cells _ (hel i x _ k1 (List.getElem?_eq_getElem hi)) (by simp) (fun b o v hb hv => hf b o v ((List.prefix_append q [i]).trans hb) hv) j' d k2 u (hrr j d u hj h2)
theorem LF.keeps {G : Ghost} {w w' : World} : ∀ (fs : Fs) (q : List Nat) (j : Nat) (cs : List D) (n : Nat), LF fs q j cs n → q ≠ [] → (∀ b o v, q <+: G.lab b → cellAt w b o = some v → cellAt w' b o = some v) → ∀ (i : Nat) (d : D), cs[i]? = some d → ∀ v, Rel G w d v → Rel G w' d v
  | .nil, _, _, cs, _, h, _, _, i, d, hd, v, hr => by
    unfold LF at h
    rw [h.2] at hd
    simp at hd
  | .cell r, q, j, cs, n, h, hq, hf, i, d, hd, v, hr => by
    unfold LF at h
    obtain ⟨m, k, t, rfl, _, h⟩ := h
    cases i with
    | zero =>
      obtain rfl : D.int .i64 m = d := by simpa using hd
      exact plain_rel rfl hr
    | succ i => exact LF.keeps r q _ t k h hq hf i d (by simpa using hd) v hr
  | .flag r, q, j, cs, n, h, hq, hf, i, d, hd, v, hr => by
    unfold LF at h
    obtain ⟨m, k, t, rfl, _, h⟩ := h
    cases i with
    | zero =>
      obtain rfl : D.bool m = d := by simpa using hd
      exact plain_rel rfl hr
    | succ i => exact LF.keeps r q _ t k h hq hf i d (by simpa using hd) v hr
  | .skip r, q, j, cs, n, h, hq, hf, i, d, hd, v, hr => by
    unfold LF at h
    obtain ⟨c, t, rfl, hp, h⟩ := h
    cases i with
    | zero =>
      obtain rfl : c = d := by simpa using hd
      exact plain_rel hp hr
    | succ i => exact LF.keeps r q _ t n h hq hf i d (by simpa using hd) v hr
  | .sub s r, q, j, cs, n, h, hq, hf, i, d, hd, v, hr => by
    unfold LF at h
    obtain ⟨d0, k1, k2, t, rfl, _, h0, h⟩ := h
    cases i with
    | zero =>
      obtain rfl : d0 = d := by simpa using hd
      exact LT.keeps s (q ++ [j]) d0 k1 h0 (by simp) (fun b o v hb hv => hf b o v ((List.prefix_append q [j]).trans hb) hv) v hr
    | succ i => exact LF.keeps r q _ t k2 h hq hf i d (by simpa using hd) v hr
end

end Go.Lg
/-
  Lg, part 34: functions whose slots hold known values, in a known world (the marks).
-/
namespace Go.Lg
open Go Go.RowKit

structure ME (n : Nat) (E : List (Nat × Value)) (a : Act) : Prop where
  defers : a.defers = []
  size : a.tmps.size = n
  env : ∀ t v, look E t = some v → a.tmps[t]? = some v

theorem ME.put {n : Nat} {E : List (Nat × Value)} {a : Act} (h : ME n E a) {t : Nat} (ht : t < n) (v : Value) : ME n ((t, v) :: E) (a.put (some t) v) := by
  refine ⟨h.defers, by simpa [Act.put] using h.size, fun t' v' hv => ?_⟩
  simp only [look] at hv
  by_cases e : t = t'
  · subst e
    simp only [if_true, Option.some.injEq] at hv
    subst hv
    simp [Act.put, h.size, ht]
  · rw [if_neg e] at hv
    simp only [Act.put]
    rw [Array.getElem?_setIfInBounds_ne e]
    exact h.env t' v' hv

section ops
variable {P : Program} {n : Nat} {ops : Array Oper} {l : List Oper} {E : List (Nat × Value)} {w : World} {K : List (Nat × Value) → World → Prop} {t : Nat} {ty : TypeId} {pos : String} {aft : Array Edge}

end ops

/-! Control. -/
inductive MItem where
  | code (c : Code)
  | inBlock (id : Nat)
  | loopEnd (J : List (Nat × Value) → World → Prop)
section ctl
variable {P : Program} {n : Nat} {R : List (Nat × Value) → World → Prop} {k : List MItem} {E : List (Nat × Value)} {w : World}
/-- Knowing less. -/
def coversM (E E' : List (Nat × Value)) : Prop := ∀ p ∈ E', look E p.1 = some p.2
theorem ME.less {E' : List (Nat × Value)} {a : Act} (h : ME n E a) (hc : coversM E E') : ME n E' a := ⟨h.defers, h.size, fun t v hv => h.env t v (hc (t, v) (mem_of_look hv))⟩
end ctl

end Go.Lg
/-
  Lg, part 35: what the marking and the checking functions do, and the frame of their proofs.
-/
namespace Go.Lg
open Go Go.RowKit

/-- The world has only grown. -/
structure Grown (w w' : World) : Prop where
  size : w.heap.size ≤ w'.heap.size
  old : ∀ b, b < w.heap.size → w'.heap[b]? = w.heap[b]?
  os : w'.os = w.os
  tape : w'.tape = w.tape
  out : w'.output = w.output
  dr : w.drawn ≤ w'.drawn
theorem Grown.refl (w : World) : Grown w w := ⟨Nat.le_refl _, fun _ _ => rfl, rfl, rfl, rfl, Nat.le_refl _⟩
theorem Grown.trans {w w' w'' : World} (h : Grown w w') (h' : Grown w' w'') : Grown w w'' :=
  ⟨Nat.le_trans h.size h'.size, fun b hb => (h'.old b (Nat.lt_of_lt_of_le hb h.size)).trans (h.old b hb), h'.os.trans h.os, h'.tape.trans h.tape, h'.out.trans h.out, Nat.le_trans h.dr h'.dr⟩
theorem Grown.alloc (w : World) (c : Array Value) (t : TypeId) : Grown w (w.alloc (.cells c t)) :=
  ⟨by simp, fun b hb => heap_alloc_old w _ hb, rfl, rfl, rfl, Nat.le_refl _⟩
theorem Grown.cellAt {w w' : World} (h : Grown w w') {b o : Nat} {v : Value} (hv : Lg.cellAt w b o = some v) : Lg.cellAt w' b o = some v := by
  have hb := cell_lt (show w.cell? ⟨b, o, none⟩ = some v from hv)
  have : w'.cell? ⟨b, o, none⟩ = some v := by rw [cell_of_heap (h.old b hb)]; exact hv
  exact this
theorem HvC.grown {w w' : World} (h : Grown w w') {p : Nat × Nat} {n : Int} (hp : HvC w p n) : HvC w' p n := by
  obtain ⟨v, h1, h2⟩ := hp
  exact ⟨v, h1, h.cellAt h2⟩
/-- The places 'as' have been written with k, k + 1 ..; all else stands; the world may have grown. -/
structure Marked (w : World) (as : List (Nat × Nat)) (k : Int) (w' : World) : Prop where
  size : w.heap.size ≤ w'.heap.size
  other : ∀ b, b < w.heap.size → (∀ q ∈ as, q.1 ≠ b) → w'.heap[b]? = w.heap[b]?
  cells : ∀ (b : Nat) (vs : Array Value) (e : TypeId), w.heap[b]? = some (.cells vs e (0, 0)) → ∃ vs', w'.heap[b]? = some (.cells vs' e (0, 0)) ∧ vs'.size = vs.size
  off : ∀ b o v, (b, o) ∉ as → cellAt w b o = some v → cellAt w' b o = some v
  ints : ∀ b o v, cellAt w b o = some v → cellAt w' b o = some v ∨ (b, o) ∈ as ∧ Mkd v ∧ ∃ n, cellAt w' b o = some (mkV v n)
  at_ : as.Nodup → ∀ (j : Nat) q, as[j]? = some q → HvC w' q (k + j)
  os : w'.os = w.os
  tape : w'.tape = w.tape
  out : w'.output = w.output
  dr : w.drawn ≤ w'.drawn
theorem Marked.append {w w' w'' : World} {l1 l2 : List (Nat × Nat)} {k : Int} (h : Marked w l1 k w') (h' : Marked w' l2 (k + l1.length) w'') : Marked w (l1 ++ l2) k w'' := by
  refine ⟨Nat.le_trans h.size h'.size, fun b hb hq => ?_, fun b vs e hb => ?_, fun b o v hn hv => ?_, fun b o v hv => ?_, fun hn j q hj => ?_, h'.os.trans h.os, h'.tape.trans h.tape, h'.out.trans h.out, Nat.le_trans h.dr h'.dr⟩
  · rw [h'.other b (Nat.lt_of_lt_of_le hb h.size) fun q hq' => hq q (List.mem_append_right _ hq'), h.other b hb fun q hq' => hq q (List.mem_append_left _ hq')]
  · obtain ⟨vs1, q1, q2⟩ := h.cells b vs e hb
    obtain ⟨vs2, q3, q4⟩ := h'.cells b vs1 e q1
    exact ⟨vs2, q3, q4.trans q2⟩
  · exact h'.off b o v (fun hm => hn (List.mem_append_right _ hm)) (h.off b o v (fun hm => hn (List.mem_append_left _ hm)) hv)
  · rcases h.ints b o v hv with q | ⟨hm, hk, m, q⟩
    · rcases h'.ints b o v q with q | ⟨hm, q⟩
      · exact .inl q
      · exact .inr ⟨List.mem_append_right _ hm, q⟩
    · rcases h'.ints b o _ q with q | ⟨hm', _, m2, q⟩
      · exact .inr ⟨List.mem_append_left _ hm, hk, m, q⟩
      · exact .inr ⟨List.mem_append_left _ hm, hk, m2, by rw [q, mkV_mkV _ _ hk]⟩
  · obtain ⟨n1, n2, n3⟩ := List.nodup_append.1 hn
    by_cases hjl : j < l1.length
    · rw [List.getElem?_append_left hjl] at hj
      have hm := List.mem_of_getElem? hj
      obtain ⟨v, e1, e2⟩ := h.at_ n1 j q hj
      exact ⟨v, e1, h'.off q.1 q.2 _ (fun hm' => n3 q hm q hm' rfl) e2⟩
    · rw [List.getElem?_append_right (by omega)] at hj
      have := h'.at_ n2 _ q hj
      rwa [show k + (l1.length : Int) + ((j - l1.length : Nat) : Int) = k + (j : Int) by omega] at this

section steps
variable {lim : Nat → Nat} {w : World}
theorem LvF.skip_step {r : Fs} {b o : Nat} {as : List (Nat × Nat)} (h : LvF lim w (.skip r) b o as) : LvF lim w r b (o + 1) as := by unfold LvF at h; exact h
theorem LvA.skip_step {r : Fs} {v : Value} {vs : List Value} {as : List (Nat × Nat)} (h : LvA lim w (.skip r) (v :: vs) as) : LvA lim w r vs as := by unfold LvA at h; exact h
end steps

end Go.Lg
/-
  Lg, part 36: marks in a statement's own body: a fresh start (what is old stays as it was), the regions that mark, what is known of what was marked.
-/
namespace Go.Lg
open Go Go.RowKit

def B0 (B : Base) : Ghost := ⟨B.lim, B.lab, fun _ => none, fun _ => none⟩
/-- What was read as 'd' when B began, and still is. -/
def KnI (B : Base) (d : D) : Ghost → World → Value → Prop := fun G w v => Rel (B0 B) B.w d v ∧ Mono (B0 B) G B.w w
def KD (B : Base) (d : D) : D := .pred (KnI B d)
/-! What is known of a value that was marked. -/
def HeldI (s : Sh) (k : Int) (n : Nat) : Ghost → World → Value → Prop := fun G w v => ∃ qs, Lv G.lim w s v qs ∧ qs.length = n ∧ ∀ (j : Nat) q, qs[j]? = some q → HvC w q (k + j)
theorem HeldI.mono {s : Sh} {k : Int} {n : Nat} {G G' : Ghost} {w w' : World} {v : Value} (hm : Mono G G' w w') (h : HeldI s k n G w v) : HeldI s k n G' w' v := by
  obtain ⟨qs, h1, h2, h3⟩ := h
  refine ⟨qs, Lv.mono (fun b o v h1 h2 => ⟨(hm.cell b o v h1 h2).1, .inl (hm.cell b o v h1 h2).2⟩) s v qs h1, h2, fun j q hj => ?_⟩
  obtain ⟨v0, e1, e2⟩ := h3 j q hj
  exact ⟨v0, e1, (hm.cell _ _ _ (Lv.ints s v qs h1 q (List.mem_of_getElem? hj)).1 e2).2⟩
def HD (s : Sh) (k : Int) (n : Nat) : D := .pred (HeldI s k n)
/-- .. of the cells of a struct: before and after. -/
def TA : Fs → List Nat → Nat → Int → List D → List D → Nat → Prop
  | .nil, _, _, _, cs, cs', n => cs = [] ∧ cs' = [] ∧ n = 0
  | .cell _, _, _, _, _, _, _ => False
  | .flag _, _, _, _, _, _, _ => False
  | .skip r, p, j, k, cs, cs', n => ∃ c t t', cs = c :: t ∧ cs' = c :: t' ∧ c.plain = true ∧ TA r p (j + 1) k t t' n
  | .sub s r, p, j, k, cs, cs', n => ∃ d m n' t t', cs = d :: t ∧ cs' = HD s k m :: t' ∧ n = m + n' ∧ LT s (p ++ [j]) d m ∧ TA r p (j + 1) (k + m) t t' n'
theorem TA.len : ∀ (fs : Fs) (p : List Nat) (j : Nat) (k : Int) (cs cs' : List D) (n : Nat), TA fs p j k cs cs' n → cs.length = fs.len ∧ cs'.length = cs.length
  | .nil, p, j, k, cs, cs', n, h => by
    unfold TA at h
    obtain ⟨rfl, rfl, _⟩ := h
    exact ⟨rfl, rfl⟩
  | .cell _, _, _, _, _, _, _, h => by unfold TA at h; exact h.elim
  | .flag _, _, _, _, _, _, _, h => by unfold TA at h; exact h.elim
  | .skip r, p, j, k, cs, cs', n, h => by
    unfold TA at h
    obtain ⟨c, t, t', rfl, rfl, _, h⟩ := h
    obtain ⟨h1, h2⟩ := TA.len r _ _ _ _ _ _ h
    simp [Fs.len, h1, h2]
  | .sub s r, p, j, k, cs, cs', n, h => by
    unfold TA at h
    obtain ⟨d, m, n', t, t', rfl, rfl, _, _, h⟩ := h
    obtain ⟨h1, h2⟩ := TA.len r _ _ _ _ _ _ h
    simp [Fs.len, h1, h2]
end Go.Lg
/-
  Lg, part 37: the fresh start of a statement's body, and the regions that mark.
-/
namespace Go.Lg
open Go Go.RowKit

section regions
variable {S : Setup} {B : Base} {R : LS → Prop} {kk : List VItem} {L L' : LS} {A M t1 t2 t3 id : Nat} {ty1 ty2 ty3 ty4 : TypeId} {p1 p2 p3 p4 : String} {a1 a2 a3 a4 : Array Edge} {tys : Array TypeId} {f : FuncId} {i n N : Nat} {k : Int}

end regions
end Go.Lg
/-
  Lg, part 38: what was made by 'make' and filled, labelled; labelled lists whose elements bear labels by their place.
-/
namespace Go.Lg
open Go Go.RowKit

def Ghost.frLab (G : Ghost) (g n id : Nat) (l : List Nat) : Ghost := ⟨fun b => if b = g then n else G.lim b, fun b => if b = g then l else G.lab b, fun i => if i = id then none else G.β i, G.τ⟩

theorem freezeLab_sim {B : Base} {L : LS} {G : Ghost} {a : Act} {w : World} (h : Sim B L G a w) {t id n s : Nat} {cs xs : List D} {l : List Nat} (ht : look L.env t = some (.ms id n)) (hb : look L.boxes id = some cs) (hx : cs = flat xs) (hn : n = xs.length)
    (hu : ∀ x ∈ xs, x.cells.length = s) (hk : ∀ d ∈ cs, d.memOk = true) (hl : l ≠ []) (hfix : id ∉ L.fix) : ∃ G', Sim B { L.forget id with env := setA (L.forget id).env t (.sl (.lab l) xs) } G' a w := by
  have hW := h.W
  obtain ⟨g, hg, ⟨vs, e, e1, e2, e3⟩, hl0, hown⟩ := hW.boxes id cs hb
  obtain ⟨v, hv, hr⟩ := h.env t _ ht
  have hlab0 : G.lab g = [] := hW.blab id g hg
  let G' := G.frLab g cs.length id l
  have hmn : Mono G G' w w := ⟨fun b o u h1 h2 => ⟨by
    simp only [G', Ghost.frLab]
    split
    · rename_i hbg; subst hbg; omega
    · exact h1, h2⟩, fun b hb => by
    simp only [G', Ghost.frLab]
    split
    · rename_i e0; subst e0; exact absurd hlab0 hb
    · rfl⟩
  have hτg : ∀ {k g' e' z}, G.τ k = some (some (g', e', z)) → g' ≠ g := fun {k g' e' z} hk e0 => by
    subst e0
    exact (hW.tau k _ e' z hk).2.2.2 id hg
  have rG : ∀ {d u}, id ∉ d.ids → Rel G w d u → Rel G' w d u := fun {d u} hid hr => hr.mono hmn (fun i hi g' hg' => by
    have : i ≠ id := fun e0 => hid (e0 ▸ hi)
    simp only [G', Ghost.frLab]
    rw [if_neg this]; exact hg') (fun k _ => .inr ⟨rfl, fun g' e' z hk' => ⟨by
      simp only [G', Ghost.frLab]
      rw [if_neg (hτg hk')], rfl⟩⟩)
  have hbox : ∀ {g' cs'}, id ∉ D.idsL cs' → BoxAt G w g' cs' → BoxAt G' w g' cs' := fun {g' cs'} hid ⟨vs, e, e1, e2, e3⟩ => ⟨vs, e, e1, e2, fun j d v hd hv => rG (fun hi => hid (mem_idsL (List.mem_of_getElem? hd) hi)) (e3 j d v hd hv)⟩
  have hcell : ∀ j, w.cell? ⟨g, j, none⟩ = vs[j]? := fun j => by simp [World.cell?, e1]
  have hlim : G'.lim g = cs.length := by simp [G', Ghost.frLab]
  have hlim' : ∀ b, b ≠ g → G'.lim b = G.lim b := fun b hb => by simp [G', Ghost.frLab, hb]
  have hlab' : ∀ b, b ≠ g → G'.lab b = G.lab b := fun b hb => by simp [G', Ghost.frLab, hb]
  have hβ : ∀ {i g'}, G'.β i = some g' → i ≠ id ∧ G.β i = some g' := fun {i g'} hi => by
    simp only [G', Ghost.frLab] at hi
    split at hi
    · cases hi
    · rename_i h0; exact ⟨h0, hi⟩
  have hβ' : ∀ {i g'}, i ≠ id → G.β i = some g' → G'.β i = some g' := fun {i g'} h0 hi => by
    simp only [G', Ghost.frLab]
    rw [if_neg h0]; exact hi
  have memNo : ∀ {d : D}, d.memOk = true → id ∉ d.ids := fun hm => by rw [memOk_ids hm]; simp
  refine ⟨G', h.defers, h.size, fun t' d hd => ?_, ?_, h.fixed⟩
  · simp only [look_setA] at hd
    by_cases e0 : t = t'
    · subst e0
      simp only [if_true, Option.some.injEq] at hd
      subst hd
      refine ⟨v, hv, ?_⟩
      cases hr with
      | @ms _ _ c1 g1 hb' hc' hn' =>
        have e0 : g1 = g := Option.some.inj (hb'.symm.trans hg)
        rw [e0]
        refine .sl (b := g) (o := 0) (s := s) (by omega) hc' hn' (.inr ⟨g, 0, rfl, by simp [G', Ghost.frLab], hl⟩) (.inr rfl) hu (hx ▸ hk) (fun j d hj => ?_) (fun j d u hj hu' => ?_)
        · rw [← hx] at hj
          have hlt : j < cs.length := (List.getElem?_eq_some_iff.1 hj).1
          rw [Nat.zero_add, hlim, hcell]
          exact ⟨hlt, vs[j]'(by omega), by simp [show j < vs.size by omega]⟩
        · rw [← hx] at hj
          rw [Nat.zero_add, hcell] at hu'
          exact rG (memNo (hk d (List.mem_of_getElem? hj))) (e3 j d u hj hu')
    · rw [if_neg e0] at hd
      obtain ⟨h1, h2⟩ := look_keepA _ _ _ _ hd
      obtain ⟨u, h3, h4⟩ := h.env t' d h1
      exact ⟨u, h3, rG (noId_spec h2) h4⟩
  · exact {
      boxes := fun i cs' hl' => by
        simp only [LS.forget, look_eraseK] at hl'
        by_cases e0 : id = i
        · rw [if_pos e0] at hl'; cases hl'
        · rw [if_neg e0] at hl'
          obtain ⟨h1, h2⟩ := look_keepA _ _ _ _ hl'
          obtain ⟨g', k1, k2, k3, k4⟩ := hW.boxes i cs' h1
          refine ⟨g', hβ' (Ne.symm e0) k1, hbox (noIdL_spec h2) k2, ?_, k4⟩
          rw [hlim' g' (by rintro rfl; exact e0 (hW.binj _ _ _ hg k1))]
          exact k3
      robs := fun i cs' hl' => by
        simp only [LS.forget, look_eraseK] at hl'
        by_cases e0 : id = i
        · rw [if_pos e0] at hl'; cases hl'
        · rw [if_neg e0] at hl'
          obtain ⟨h1, h2⟩ := look_keepA _ _ _ _ hl'
          obtain ⟨g', k1, k2, k3⟩ := hW.robs i cs' h1
          exact ⟨g', hβ' (Ne.symm e0) k1, hbox (noIdL_spec h2) k2, k3⟩
      toks := hW.toks
      tau := fun k g' e' z hk' => by
        obtain ⟨h1, h2, ⟨cur, h3, h4⟩, h5⟩ := hW.tau k g' e' z hk'
        refine ⟨h1, h2, ⟨cur, h3, ?_⟩, fun i hi => h5 i (hβ hi).2⟩
        rw [hlim' g' (hτg hk')]
        exact h4
      tinj := hW.tinj
      binj := fun i j g' hi hj => hW.binj i j g' (hβ hi).2 (hβ hj).2
      blt := fun i g' hi => hW.blt i g' (hβ hi).2
      lablt := fun b hb => by
        by_cases e0 : b = g
        · subst e0; exact hW.blt id _ hg
        · rw [hlab' b e0] at hb; exact hW.lablt b hb
      old := fun b hb1 hb2 => by
        refine ⟨(hW.old b hb1 hb2).1, ?_⟩
        rw [hlim' b]
        · exact (hW.old b hb1 hb2).2
        · rintro rfl
          rcases hown with h | h
          · omega
          · exact hb2 h
      olda := fun b hb1 => by
        refine ⟨?_, (hW.olda b hb1).2⟩
        have := (hW.olda b hb1).1
        by_cases hbg : b = g
        · subst hbg; rw [hl0] at this; omega
        · rw [hlim' b hbg]; exact this
      oldl := fun b hb1 hb2 => by
        have h0 := hW.oldl b hb1 hb2
        have hbg : b ≠ g := fun e0 => by subst e0; rw [hlab0] at h0; exact hb2 h0.symm
        rw [hlab' b hbg]; exact h0
      tlab := fun k g' e' z hk' => by rw [hlab' g' (hτg hk')]; exact hW.tlab k g' e' z hk'
      blab := fun i g' hi => by
        obtain ⟨h0, hi⟩ := hβ hi
        have hne : g' ≠ g := fun e0 => h0 (hW.binj i id g (e0 ▸ hi) hg)
        rw [hlab' g' hne]; exact hW.blab i g' hi
      oldu := fun b hb1 hb2 hb3 => by
        have hbg : b ≠ g := fun e0 => by
          subst e0
          rcases hown with h | h
          · omega
          · exact hb2 h
        rw [hlab' b hbg]; exact hW.oldu b hb1 hb2 hb3
      labw := fun b hb hor => by
        by_cases e0 : b = g
        · subst e0; exact ⟨vs, e, e1⟩
        · rw [hlab' b e0] at hb; exact hW.labw b hb hor
      ids := fun p hp => hβ' (fun e0 => hfix (e0 ▸ h.fixed p hp)) (hW.ids p hp)
      sz := hW.sz
      os := hW.os
      tape := hW.tape
      out := hW.out
      dr := hW.dr }

section
variable {S : Setup} {B : Base} {R : LS → Prop} {k : List VItem} {L : LS}
end

/-- A list whose elements' labels go by their place. -/
def mapR {α : Type} [Inhabited α] (g : Nat → α → D) (xs : List α) : List D := (List.range xs.length).map fun j => g j (xs.getD j default)
theorem mapR_length {α : Type} [Inhabited α] (g : Nat → α → D) (xs : List α) : (mapR g xs).length = xs.length := by simp [mapR]
/-- The first i elements of it. -/
def upR {α : Type} [Inhabited α] (g : Nat → α → D) (xs : List α) (i : Nat) : List D := (List.range i).map fun j => g j (xs.getD j default)
theorem upR_length {α : Type} [Inhabited α] (g : Nat → α → D) (xs : List α) (i : Nat) : (upR g xs i).length = i := by simp [upR]
theorem upR_mem {α : Type} [Inhabited α] {g : Nat → α → D} {xs : List α} {i : Nat} {P : D → Prop} (h : ∀ j x, P (g j x)) : ∀ d ∈ upR g xs i, P d := fun d hd => by
  obtain ⟨j, _, rfl⟩ := List.mem_map.1 hd
  exact h j _
theorem mapR_getDm {α : Type} [Inhabited α] {g : Nat → α → D} {xs : List α} {i : Nat} (h : Om (i < xs.length)) : (mapR g xs).getD i default = g i (xs.getD i default) := by
  have h : i < xs.length := h.out
  unfold mapR
  simp only [List.getD, List.getElem?_map, List.getElem?_range h, Option.map_some, Option.getD_some]
end Go.Lg
/-
  Lg, part 39: the marking regions, the state behind them reckoned.
-/
namespace Go.Lg
open Go Go.RowKit

section regions
variable {S : Setup} {B : Base} {R : LS → Prop} {kk : List VItem} {L : LS} {A M t1 t2 t3 id : Nat} {ty1 ty2 ty3 ty4 : TypeId} {p1 p2 p3 p4 : String} {a1 a2 a3 a4 : Array Edge} {tys : Array TypeId} {f : FuncId} {i n N : Nat} {k : Int}

end regions
section
variable (B : Base) (d : D) (s : Sh) (k : Int) (n : Nat)
theorem KD_ids : (KD B d).ids = [] := rfl
theorem KD_tks : (KD B d).tks = [] := rfl
theorem KD_cells : (KD B d).cells = [KD B d] := rfl
theorem KD_pu1 (p : Nat → Bool) : D.pu1 p (KD B d) = KD B d := rfl
theorem KD_pu (p : Nat → Bool) : D.pu p (KD B d) = KD B d := rfl
theorem KD_shT (o : Nat) : D.shT o (KD B d) = KD B d := rfl
theorem HD_ids : (HD s k n).ids = [] := rfl
theorem HD_tks : (HD s k n).tks = [] := rfl
theorem HD_cells : (HD s k n).cells = [HD s k n] := rfl
theorem HD_pu1 (p : Nat → Bool) : D.pu1 p (HD s k n) = HD s k n := rfl
theorem HD_pu (p : Nat → Bool) : D.pu p (HD s k n) = HD s k n := rfl
theorem HD_shT (o : Nat) : D.shT o (HD s k n) = HD s k n := rfl
end
attribute [go_sem] KD_ids KD_tks KD_cells KD_pu1 KD_pu KD_shT HD_ids HD_tks HD_cells HD_pu1 HD_pu HD_shT
/-- As 'sw_tok', in a cell of a box. -/
theorem sw_tokBox {S : Setup} {B : Base} {R : LS → Prop} {kk : List VItem} {L : LS} (id j k : Nat) (e : TypeId) (z : Nat) {cs : List D} (hb : look (L.purge (fun x => x == k)).boxes id = some cs) (hj : cs[j]? = some (.sl .nil [])) (hc : (L.purge (fun x => x == k)).clean (fun x => x == k) = true)
    (h : SW S B R kk { L.purge (fun x => x == k) with boxes := setA (L.purge (fun x => x == k)).boxes id (cs.set j (.sl (.own k e z) [])), toks := k :: L.toks }) : SW S B R kk L := fun G a w hs => by
  have hp := purge_sim hs (fun x => x == k)
  have hstep : TokStep B G (G.setTok k (some none)) w w k := {
    mono := ⟨fun _ _ _ h1 h2 => ⟨h1, h2⟩, fun _ _ => rfl⟩
    beta := rfl, lab := rfl, sz := Nat.le_refl _, os := rfl, tape := rfl, out := rfl, dr := by first | exact Nat.le_refl _ | exact Nat.le_succ _
    tau := fun k' hk' => .inr ⟨by simp [Ghost.setTok, hk'], fun _ _ _ _ => ⟨rfl, rfl⟩⟩
    block := fun _ _ => .inl ⟨rfl, rfl⟩
    new := fun g e' z' hg => by simp [Ghost.setTok] at hg
    live := by simp [Ghost.setTok] }
  have hsim := tokStep_sim hp hstep hc (tk := k :: L.toks) (fun k' hk' => by
    by_cases e : k' = k
    · exact .inl e
    · rcases List.mem_cons.1 hk' with h | h
      · exact absurd h e
      · exact .inr ⟨by simp [Ghost.setTok, e], h⟩)
  refine h _ a w ⟨hsim.defers, hsim.size, hsim.env, { hsim.W with boxes := fun i c hi => ?_ }, hsim.fixed⟩
  simp only [look_setA] at hi
  by_cases e0 : id = i
  · subst e0
    simp only [if_true, Option.some.injEq] at hi
    subst hi
    obtain ⟨g, q1, ⟨vs, e', e1, e2, e3⟩, q3⟩ := hsim.W.boxes id cs hb
    refine ⟨g, q1, ⟨vs, e', e1, by simpa using e2, fun j' d v hd hv => ?_⟩, q3⟩
    by_cases hjj : j = j'
    · subst hjj
      rw [List.getElem?_set_self (List.getElem?_eq_some_iff.1 hj).1] at hd
      obtain rfl := Option.some.inj hd
      have hr := e3 j _ v hj hv
      cases hr with
      | @sl _ _ A n c b o s hn hcc hm ht' hA hu hk hst hr =>
        exact .sl (b := 0) (o := 0) (s := 0) hn hcc hm (by simp only [TkOk, Ghost.setTok, if_true]; exact ⟨ht'.2.1, ht'.2.2⟩) (.inl rfl) (by simp) (by simp [flat]) (by simp [flat]) (by simp [flat])
    · rw [List.getElem?_set_ne hjj] at hd
      exact e3 j' d v hd hv
  · rw [if_neg e0] at hi
    exact hsim.W.boxes i c hi
end Go.Lg
/-
  Lg: a call that wants tokens for empty lists takes fresh empty lists.
-/
namespace Go.Lg
open Go Go.RowKit
variable {S : Setup}
theorem baseOf_emp (G : Ghost) (w : World) (bx : List (Nat × List D)) (tk : List Nat) (k : Nat) (hk : k ∉ tk) : baseOf (G.setTok k (some none)) w bx (k :: tk) = baseOf G w bx tk := by
  unfold baseOf
  congr 1
  funext b
  refine propext ⟨?_, ?_⟩
  · rintro (h | ⟨k', h1, e, z, h2⟩)
    · exact .inl h
    · refine .inr ⟨k', ?_, e, z, ?_⟩
      · rcases List.mem_cons.1 h1 with rfl | h1
        · simp [Ghost.setTok] at h2
        · exact h1
      · rcases List.mem_cons.1 h1 with rfl | h1
        · simp [Ghost.setTok] at h2
        · have : k' ≠ k := fun e => hk (e ▸ h1)
          simpa [Ghost.setTok, this] using h2
  · rintro (h | ⟨k', h1, e, z, h2⟩)
    · exact .inl h
    · have : k' ≠ k := fun e => hk (e ▸ h1)
      exact .inr ⟨k', List.mem_cons_of_mem _ h1, e, z, by simpa [Ghost.setTok, this] using h2⟩
theorem FC.emp {f : FuncId} {ro bx bx' : List (Nat × List D)} {tk tk' : List Nat} {args args' : List D} {d : D} (i k : Nat) (e : TypeId) (z : Nat) {t : Tk} (h : FC S f ro bx (k :: tk) args' d bx' tk')
    (hl : args'.length = args.length) (ht : look (enumD 0 args) i = some (.sl t [])) (htk : t = .nil ∨ t = .full) (hk : k ∉ tk) (hc : (LS.mk args.length (enumD 0 args) bx ro tk (bx.map (·.1))).clean (fun x => x == k) = true)
    (he : enumD 0 args' = setA (enumD 0 args) i (.sl (.own k e z) [])) : FC S f ro bx tk args d bx' tk' := ⟨h.1, fun w G vals hs => by
  obtain ⟨v, hv, hr⟩ := hs.env i _ ht
  have hstep : TokStep (baseOf G w bx tk) G (G.setTok k (some none)) w w k := {
    mono := ⟨fun _ _ _ h1 h2 => ⟨h1, h2⟩, fun _ _ => rfl⟩
    beta := rfl, lab := rfl, sz := Nat.le_refl _, os := rfl, tape := rfl, out := rfl, dr := by first | exact Nat.le_refl _ | exact Nat.le_succ _
    tau := fun k' hk' => .inr ⟨by simp [Ghost.setTok, hk'], fun _ _ _ _ => ⟨rfl, rfl⟩⟩
    block := fun _ _ => .inl ⟨rfl, rfl⟩
    new := fun g e' z' hg => by simp [Ghost.setTok] at hg
    live := by simp [Ghost.setTok] }
  have hsim := tokStep_sim hs hstep hc (tk := k :: tk) (fun k' hk' => by
    by_cases e : k' = k
    · exact .inl e
    · rcases List.mem_cons.1 hk' with h | h
      · exact absurd h e
      · exact .inr ⟨by simp [Ghost.setTok, e], h⟩)
  have h2 := h.2 w (G.setTok k (some none)) vals
  rw [baseOf_emp G w bx tk k hk, hl, he] at h2
  refine h2 (env_set hsim hv ?_)
  cases hr with
  | @sl _ _ A n c b o s hn hcc hm ht' hA hu hk hst hr =>
    have h0 : n = 0 := hn
    have hc0 : c = 0 := by
      rcases htk with rfl | rfl
      · exact ht'.2.2
      · have : n = c := ht'
        omega
    exact .sl (b := 0) (o := 0) (s := 0) hn hcc hm (by simp only [TkOk, Ghost.setTok, if_true]; exact ⟨h0, hc0⟩) (.inl rfl) (by simp) (by simp [flat]) (by simp [flat]) (by simp [flat])⟩
end Go.Lg
/-
  Lg: a region that draws its order, of which the first operation, a plain reading of a slot, may stand anywhere ahead of the last part; one operation of any kind in the middle.
-/
namespace Go.Lg
open Go Go.RowKit
section
variable {S : Setup} {md : Region.Mode} {ops : Array Oper} {bx : Nat → Option (List D)} {n m h0 : Nat}
def TailH (md : Region.Mode) (ops : Array Oper) (h m : Nat) : Prop := ∀ k, m ≤ k → k < ops.size → ∀ j, h ≤ j → j < m → j ∈ clos md ops k (ons md ops k)
structure InvH (md : Region.Mode) (ops : Array Oper) (h m f : Nat) (listed : Array Bool) : Prop where
  inv : InvT md ops m f listed
  pre : ∀ j < h, listed.getD j false = true
theorem InvH.lt {m f i : Nat} {listed : Array Bool} (hB : TailH md ops h0 m) (h : InvH md ops h0 m (f + 1) listed) (hi : i ∈ Region.ready md ops listed) : i < m := by
  refine Nat.lt_of_not_le fun hm => ?_
  have hall : ∀ j < m, listed.getD j false = true := fun j hj => by
    rcases Nat.lt_or_ge j h0 with h1 | h1
    · exact h.pre j h1
    · exact clos_listed h.inv.down _ _ (ready_ons hi) j (hB i hm (ready_lt hi) j h1 hj)
  have : cntU m listed = 0 := by
    unfold cntU
    rw [List.length_eq_zero_iff, List.filter_eq_nil_iff]
    intro j hj
    have hj := List.mem_range.1 hj
    have h1 := hall j (by omega)
    have hlt : j < listed.size := by
      rcases Nat.lt_or_ge j listed.size with h' | h'
      · exact h'
      · simp [Array.getElem?_eq_none h'] at h1
    simp [hlt] at h1 ⊢
    exact h1
  rw [h.inv.cnt] at this
  omega
theorem InvH.set {m f i : Nat} {listed : Array Bool} (h : InvH md ops h0 m (f + 1) listed) (hi : i ∈ Region.ready md ops listed) (him : i < m) : InvH md ops h0 m f (listed.setIfInBounds i true) :=
  ⟨h.inv.set hi him, fun j hj => getD_set_true (h.pre j hj)⟩
end
theorem wpAny_monoQ {P : Program} {md : Region.Mode} {ops : Array Oper} {Q Q' : Exit → Act → World → Prop} (h : ∀ e a w, Q e a w → Q' e a w) : ∀ (f : Nat) (listed : Array Bool) (a : Act) (w : World), wpAny P md ops Q f listed a w → wpAny P md ops Q' f listed a w
  | 0, _, _, _, hh => ⟨hh.1, h _ _ _ hh.2⟩
  | f + 1, _, a, w, hh => ⟨fun e => h _ _ _ (hh.1 e), fun i hi => by
    have h1 := wpOp_mono (fun a w => wpAny_monoQ h f _ a w) (hh.2 i hi)
    unfold wpOp at h1 ⊢
    split at h1
    · exact h1
    · split at h1
      · rename_i hw
        rw [if_pos hw]
        rcases h1 with h1 | ⟨h1, a, w, h2⟩
        · exact .inl (Oper.wp_congrQ (fun e a w _ hq => h e a w hq) h1)
        · exact .inr ⟨h1, a, w, h _ _ _ h2⟩
      · rename_i hw
        rw [if_neg hw]
        exact h1⟩
end Go.Lg
/-
  Lg: a list literal that is going to be appended to, or is a result: it is given a token where it is made.
-/
namespace Go.Lg
open Go Go.RowKit
/-- What is asked behind the first part of the operations. -/
def thenQ (P : Program) (ops : Array Oper) (Q : Exit → Act → World → Prop) (l2 : List Oper) : Exit → Act → World → Prop
  | .normal, a, w => wpList P ops Q l2 a w
  | e, a, w => Q e a w
theorem thenQ_wp {P : Program} {ops : Array Oper} {Q : Exit → Act → World → Prop} {l2 : List Oper} {o : Oper} {a : Act} {w : World} {K K' : Act → World → Prop} (h : ∀ a w, K a w → K' a w)
    (hh : o.wp P a w K (thenQ P ops Q l2)) : o.wp P a w K' Q := by
  unfold Oper.wp at *
  generalize (execOp a.eval o).run P w = r at *
  cases r with
  | ok n w' =>
    cases n <;> simp only [Oper.upon] at hh ⊢ <;>
      first
        | exact h _ _ hh
        | exact hh
        | (refine hh.mono fun e w2 h2 => ?_; revert h2; cases e <;> first | exact fun h2 => h _ _ h2 | exact fun h2 => h2)
        | (refine hh.mono fun v w2 h2 => h _ _ h2)
  | halt x w' => cases x <;> simp only [Oper.upon] at hh ⊢ <;> exact hh
theorem wpList_app {P : Program} {ops : Array Oper} {Q : Exit → Act → World → Prop} {l2 : List Oper} : ∀ (l1 : List Oper) (a : Act) (w : World), wpList P ops (thenQ P ops Q l2) l1 a w → wpList P ops Q (l1 ++ l2) a w
  | [], a, w, h => h
  | o :: l1, a, w, h => by
    unfold wpList at h
    rw [List.cons_append]
    unfold wpList
    split at h
    · rename_i hw
      rw [if_pos hw]
      rcases h with h | ⟨h1, h2⟩
      · exact .inl (thenQ_wp (fun a w h => wpList_app l1 a w h) h)
      · exact .inr ⟨h1, h2⟩
    · rename_i hw
      rw [if_neg hw]
      exact wpList_app l1 _ _ h
theorem LopsW.app {S : Setup} {B : Base} {ops : Array Oper} {l l2 : List Oper} {L : LS} {N M : LS → Prop} (h : LopsW S B ops l L N) (hN : ∀ L', N L' → LopsW S B ops l2 L' M) : LopsW S B ops (l ++ l2) L M := fun G a w hs Q hQ =>
  wpList_app l a w (h G a w hs (thenQ S.P ops Q l2) fun L' G' a' w' h1 h2 => hN L' h1 G' a' w' h2 Q hQ)
theorem fresh_stepB {B : Base} {L : LS} {G : Ghost} {a : Act} {w : World} (h : Sim B L G a w) (arr : Array Value) (e : TypeId) (z N : Nat) (hz : 0 < z) (hN : N ≤ arr.size) (tok : Nat) :
    TokStep B G ((G.grow w.heap.size N).setTok tok (some (some (w.heap.size, e, z)))) w (w.alloc (.cells arr e)) tok := by
  have hW := h.W
  have hold : ∀ b, b < w.heap.size → (w.alloc (.cells arr e)).heap[b]? = w.heap[b]? := fun b hb => Below.heap_alloc w _ b hb
  have hlim : ∀ b, b < w.heap.size → (G.grow w.heap.size N).lim b = G.lim b := fun b hb => by simp only [Ghost.grow]; rw [if_neg (by omega)]
  have hmn : Mono G ((G.grow w.heap.size N).setTok tok (some (some (w.heap.size, e, z)))) w (w.alloc (.cells arr e)) := by
    refine ⟨fun b o v h1 h2 => ?_, fun _ _ => rfl⟩
    have hlt := cell_lt h2
    exact ⟨by show o < (G.grow w.heap.size N).lim b; rw [hlim b hlt]; exact h1, by rw [cell_of_heap (hold b hlt)]; exact h2⟩
  have hnew : (w.alloc (.cells arr e)).heap[w.heap.size]? = some (.cells arr e (0, 0)) := heap_alloc_new w _
  refine {
    mono := hmn
    beta := rfl
    lab := rfl
    sz := by simp
    os := rfl
    tape := rfl
    out := rfl
    dr := by first | exact Nat.le_refl _ | exact Nat.le_succ _
    tau := fun k hk => ?_
    block := fun b hb => .inl ⟨hold b hb, hlim b hb⟩
    new := fun g e' z' hg => ?_
    live := by simp [Ghost.setTok] }
  · simp only [Ghost.setTok, if_neg hk]
    refine .inr ⟨rfl, fun g e' z' hg => ?_⟩
    obtain ⟨_, _, ⟨cur, hc, _⟩, _⟩ := hW.tau k g e' z' hg
    exact ⟨hlim g (heap_lt hc), hold g (heap_lt hc)⟩
  · simp only [Ghost.setTok, if_true, Option.some.injEq, Prod.mk.injEq] at hg
    obtain ⟨rfl, rfl, rfl⟩ := hg
    refine ⟨.inl hW.sz, hz, ⟨arr, hnew, by simpa [Ghost.setTok, Ghost.grow] using hN⟩, fun i hi => ?_, fun k e' z' hk hkk => ?_, Classical.byContradiction fun hne => Nat.lt_irrefl _ (hW.lablt _ hne)⟩
    · have := hW.blt _ _ hi; omega
    · simp only [Ghost.setTok, if_neg hk] at hkk
      obtain ⟨_, _, ⟨cur, hc, _⟩, _⟩ := hW.tau k _ _ _ hkk
      have := heap_lt hc
      omega
/-- A list literal with elements, as an own list. -/
theorem LopsW.buildOwn {S : Setup} {B : Base} {ops : Array Oper} {l : List Oper} {L : LS} {K : LS → Prop} {t n : Nat} {T e : TypeId} {i : TyI} {ps : Array (Nat × Operand)} {qs : List (Nat × D)} {ty : TypeId} {pos : String} {aft : Array Edge} (tok : Nat)
    (hds : zipO (evalO L) ps.toList = some qs) (hk : S.kd T = some (.slice e)) (hi : S.tab e = some i)
    (hside : (t < L.n ∧ 0 < n ∧ 0 < i.size ∧ n * i.size ≤ 16777216) ∧ qs.map (·.1) = List.range n ∧ ∀ p ∈ qs, p.2.cells.length = i.size ∧ ∀ c ∈ p.2.strip.cells, c.memOk = true) (hc : L.clean (fun x => x == tok) = true)
    (h : LopsW S B ops l (({ L with toks := tok :: L.toks } : LS).put t (.sl (.own tok e i.size) (qs.map (·.2.strip)))) K) : LopsW S B ops (⟨some t, .buildSlice T n ps, ty, pos, aft, none⟩ :: l) L K := by
  intro G a w hs Q hQ
  obtain ⟨⟨s1, s2, s3, s4⟩, hidx, hcell⟩ := hside
  refine wpList_step fun N hN => ?_
  rw [if_pos (guardY_sound (S := S) (b := true) rfl hs rfl)]
  have hv : PRel G w qs (ps.map fun (i, x) => (i, a.eval x)).toList := by simpa using zipO_sound hs hds
  generalize hvs : (ps.map fun (i, x) => (i, a.eval x)) = vs at hv
  have hu := kd_slice hk
  have hok := S.ok e i hi
  obtain ⟨inf, i1, i2, i3, z, i4, i5, i6⟩ := hok.info
  have hzs : z.cells.size = i.size := by rw [i5]; simp [TyI.size]
  have hlen : qs.length = n := by have := congrArg List.length hidx; simpa using this
  let q2 := qs.map fun p => (p.1, p.2.strip)
  have hq : PRel G w q2 vs.toList := hv.strip
  have hqi : q2.map (·.1) = List.range' 0 (n - 0) := by
    simp only [q2, List.map_map, Nat.sub_zero]
    rw [← List.range_eq_range', ← hidx]
    rfl
  have hqc : ∀ p ∈ q2, p.2.cells.length = i.size := fun p hp => by
    obtain ⟨p0, h0, rfl⟩ := List.mem_map.1 hp
    simp only [strip_cells_length]
    exact (hcell p0 h0).1
  obtain ⟨arr, e1, e2⟩ := fill_dense (s := i.size) (k := 0) (n := n) (dn := []) (arr := (Array.range (n * i.size)).map (z.cells[· % z.cells.size]!)) hq hqi (Nat.zero_le _) hqc rfl (by simp) (by simp) (by simp [flat])
  simp only [List.nil_append] at e2
  have hq2 : q2.map (·.2) = qs.map (·.2.strip) := by simp [q2]
  rw [hq2] at e2
  have hmem : ∀ d ∈ flat (qs.map (·.2.strip)), d.memOk = true := fun d hd => by
    obtain ⟨x, hx, hd⟩ := List.mem_flatMap.1 hd
    obtain ⟨p, hp, rfl⟩ := List.mem_map.1 hx
    exact (hcell p hp).2 d hd
  have hu2 : ∀ x ∈ qs.map (·.2.strip), x.cells.length = i.size := fun x hx => by
    obtain ⟨p, hp, rfl⟩ := List.mem_map.1 hx
    rw [strip_cells_length]
    exact (hcell p hp).1
  have hn0 : n * i.size ≠ 0 := by
    intro h0
    rcases Nat.mul_eq_zero.1 h0 with h | h <;> omega
  have hrun : (Instr.buildSlice T n vs).run S.P w = .ok (.slice (some ⟨w.heap.size, 0, none⟩) n n) (w.alloc (.cells arr e)) := by
    refine run_buildSlice (P := S.P) w T e n vs arr inf z hu i1 i4 (by rw [i2]; omega) (by rw [i2]; exact hn0) ?_
    rw [i2]
    exact e1
  have hop : (execOp a.eval ⟨some t, .buildSlice T n ps, ty, pos, aft, none⟩).run S.P w = .ok (.value (.slice (some ⟨w.heap.size, 0, none⟩) n n)) (w.alloc (.cells arr e)) := by
    simp [execOp, hvs, hrun]
  unfold Oper.wp
  rw [hop]
  have harr := e2.1
  have hfl := flat_length hu2
  have hst := fresh_stepB hs arr e i.size (n * i.size) s3 (by rw [harr, hfl, List.length_map, hlen]; exact Nat.le_refl _) tok
  have hsim := tokStep_sim hs hst hc (tk := tok :: L.toks) (fun k' hk' => by
    by_cases e : k' = tok
    · exact .inl e
    · rcases List.mem_cons.1 hk' with h | h
      · exact absurd h e
      · exact .inr ⟨by simp [Ghost.setTok, e, Ghost.grow], h⟩)
  refine hN _ _ (h _ _ _ (hsim.putO (t := some t) (fun t' ht => by obtain rfl := Option.some.inj ht; exact s1) ?_) Q hQ)
  have hnew : (w.alloc (.cells arr e)).heap[w.heap.size]? = some (.cells arr e (0, 0)) := heap_alloc_new w _
  have hcl : ∀ j, (w.alloc (.cells arr e)).cell? ⟨w.heap.size, j, none⟩ = arr[j]? := fun j => alloc_cell w arr e j
  have hnm : n ≤ maxLen := by
    have := Nat.le_mul_of_pos_right n s3
    simp only [maxLen]; omega
  refine .sl (b := w.heap.size) (o := 0) (s := i.size) (by simp [hlen]) (Nat.le_refl _) hnm ?_ (.inr rfl) hu2 hmem (fun j d hd => ?_) (fun j d v hd hv' => ?_)
  · simp only [TkOk, Ghost.setTok, if_true]
    refine ⟨⟨trivial, trivial⟩, trivial, by simp [Ghost.grow], ?_, hu2⟩
    unfold World.shape?
    simp only [hnew, harr, hfl, List.length_map, hlen]
  · have hj : j < n * i.size := by
      have := (List.getElem?_eq_some_iff.1 hd).1
      rw [hfl, List.length_map, hlen] at this
      exact this
    have hja : j < arr.size := by rw [harr, hfl, List.length_map, hlen]; exact hj
    simp only [Nat.zero_add]
    refine ⟨by simpa [Ghost.setTok, Ghost.grow] using hj, arr[j], ?_⟩
    rw [hcl]
    simp [hja]
  · simp only [Nat.zero_add, hcl] at hv'
    exact rel_step hst (e2.2 j d v hd hv') (hmem d (List.mem_of_getElem? hd))
/-- What is left to show where a literal is made: 'x := []T{..}'. -/
def BsOwn (S : Setup) (tok t u T n : Nat) (ps : Array (Nat × Operand)) (M : LS → Prop) (L : LS) : Prop :=
  ∃ (qs : List (Nat × D)) (e : TypeId) (i : TyI), zipO (evalO L) ps.toList = some qs ∧ S.kd T = some (.slice e) ∧ S.tab e = some i ∧
    ((t < L.n ∧ 0 < n ∧ 0 < i.size ∧ n * i.size ≤ 16777216) ∧ qs.map (·.1) = List.range n ∧ ∀ p ∈ qs, p.2.cells.length = i.size ∧ ∀ c ∈ p.2.strip.cells, c.memOk = true) ∧ L.clean (fun x => x == tok) = true ∧ u < L.n ∧
    M ((({ L with toks := tok :: L.toks } : LS).put t (.sl (.own tok e i.size) (qs.map (·.2.strip)))).put u (.sl (.own tok e i.size) (qs.map (·.2.strip))))
theorem runL_sound2 {S : Setup} {base : Nat} {B : Base} {ops : Array Oper} {l2 : List Oper} {K : LS → Prop} {K' : List Oper → LS → Prop} (hK : ∀ l L, K' l L → LopsW S B ops (l ++ l2) L K) : ∀ (l : List Oper) (L : LS), runL S base ops K' l L → LopsW S B ops (l ++ l2) L K
  | [], L, h => hK [] L h
  | ⟨dst, op, ty, pos, aft, g⟩ :: l, L, h => by
    unfold runL at h
    split at h
    · exact hK _ L h
    · split at h
      · rename_i hg
        intro G a w hs Q hQ
        refine wpList_step fun N hN => ?_
        rw [if_pos (guardY_sound (S := S) rfl hs (o := ⟨dst, op, ty, pos, aft, g⟩) hg)]
        exact Oper.wp_mono (fun a' w' h' => hN a' w' h') (stepY_mono h (fun L' h' => runL_sound2 hK l L' h') G a w hs Q hQ)
      · rename_i hg
        exact LopsW.skip (o := ⟨dst, op, ty, pos, aft, g⟩) hg h.1 (runL_sound2 hK l _ h.2)
      · exact hK _ L h
/-- A region that ends by making a list and naming it. -/
theorem sw_goB {S : Setup} {B : Base} {R : LS → Prop} {k : List VItem} {L : LS} (base : Nat) (kp : List (Nat × List Nat)) (m tok : Nat) {id t u T n : Nat} {ps : Array (Nat × Operand)} {ty1 ty2 : TypeId} {p1 p2 : String} {a1 a2 : Array Edge} {l : List Oper}
    (hl : l.drop m = [⟨some t, .buildSlice T n ps, ty1, p1, a1, none⟩, ⟨some u, .assign (.tmp t), ty2, p2, a2, none⟩])
    (h : ∀ K : List Oper → LS → Prop, KOk S base B l.toArray (BsOwn S tok t u T n ps fun L' => SW S B R k (L'.keepAt kp id)) K → runL S base l.toArray K (l.take m) L) : SW S B R (.code (.region id l.toArray false) :: k) L := by
  have hs : ∀ l' L', runL S base l.toArray (fun l' L' => LopsW S B l.toArray (l' ++ l.drop m) L' (fun L2 => SW S B R k L2)) l' L' → LopsW S B l.toArray (l' ++ l.drop m) L' (fun L2 => SW S B R k L2) :=
    runL_sound2 (base := base) (K' := fun l' L' => LopsW S B l.toArray (l' ++ l.drop m) L' (fun L2 => SW S B R k L2)) (fun _ _ h => h)
  have hfin : ∀ L, BsOwn S tok t u T n ps (fun L' => SW S B R k (L'.keepAt kp id)) L → LopsW S B l.toArray (l.drop m) L (fun L2 => SW S B R k L2) := fun L ⟨qs, e, i, h1, h2, h3, h4, h5, h6, h7⟩ => by
    rw [hl]
    refine LopsW.buildOwn tok h1 h2 h3 h4 h5 (LopsW.step (base := base) rfl ?_)
    simp only [stepY, opY, evalO, LS.get, LS.put, look_setA, if_true, someK, LS.putO]
    exact ⟨h6, LopsW.nil (sw_keepAt kp id h7)⟩
  have hl2 : l.take m ++ l.drop m = l := List.take_append_drop m l
  have hgo := hs _ _ (h _ {
    nil := fun h => hfin _ h
    raw := fun h => h.app fun L' h' => hfin L' h'
    weak := fun hc h => LopsW.weak hc (hs _ _ h)
    split := fun t _ ht h1 h0 => LopsW.split t ht (fun e => hs _ _ (h1 e)) (fun e => hs _ _ (h0 e))
    skip := fun hg hd h => LopsW.skip hg hd (hs _ _ h)
    call := fun hg _ _ _ _ _ hf hds fc hside h => LopsW.call hg hf hds fc hside (hs _ _ h)
    callV := fun hg _ _ _ _ _ hf hds fc hside h => LopsW.callV hg hf hds fc hside (hs _ _ h)
    callB := fun hg _ _ _ _ _ _ _ _ _ hf hds fc hside h => LopsW.callB hg hf hds fc hside (hs _ _ h)
    callT := fun hg _ _ _ _ _ _ _ hf hds fc hside h => LopsW.callTi hg (base + _) hf hds fc hside (hs _ _ h)
    callM := fun hg _ _ _ _ _ _ _ hf hds fc hside h => LopsW.callM hg (base + _) hf hds fc hside (hs _ _ h) })
  rw [hl2] at hgo
  exact sw_region hgo
end Go.Lg
/-
  Lg: slices.SortFunc of a list of lists in a box, out of the kit's contract and a contract of the comparing function.
-/
namespace Go.Lg
open Go Go.RowKit
end Go.Lg
/-
  Lg: labels of new lists are given anew (a sort has put the lists into another order); bodies whose base is known to bear no label with a given head.
-/
namespace Go.Lg
open Go Go.RowKit
/-- the base bears no label that begins with N -/
def Base.off (B : Base) (N : Nat) : Prop := (∀ b, ¬ B.ab b) ∧ ∀ b l, B.lab b ≠ N :: l
end Go.Lg
/-
  Lg: what does not read an own list (by kind, token or box).
-/
namespace Go.Lg
open Go Go.RowKit
/-- the block 'g', of which nothing is known from now on -/
def Ghost.hide (G : Ghost) (g : Nat) : Ghost := { G with lim := fun b => if b = g then 0 else G.lim b }
end Go.Lg
