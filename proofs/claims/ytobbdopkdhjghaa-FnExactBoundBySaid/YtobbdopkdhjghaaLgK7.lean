/-
  Lg: LgMk, LgMk3, LgMk7, LgEmp, LgDraw6, LgBsOwn, LgSortA, LgRelab, one behind the other.
-/
import Derived.Test.YtobbdopkdhjghaaLgK6
import Derived.Test.YtobbdopkdhjghaaLgK4
import Derived.Test.YtobbdopkdhjghaaLgK5
import Derived.Sort.Grow
import Derived.Deep.Draws
/-
  Lg, part 32: marks: the int cells that a value reaches, as a list of places; writing them one behind the other; the readings that stand.
-/
namespace Go.Lg
open Go Go.RowKit

/-! A list shape: what lies in the cells of an element, one behind the other: a marked int, something that is not marked, a list. -/
mutual
inductive Sh where
  | slc (fs : Fs)
inductive Fs where
  | nil
  | cell (r : Fs)
  | flag (r : Fs)
  | skip (r : Fs)
  | sub (s : Sh) (r : Fs)
end
def Fs.len : Fs → Nat
  | .nil => 0
  | .cell r => r.len + 1
  | .flag r => r.len + 1
  | .skip r => r.len + 1
  | .sub _ r => r.len + 1

def cellAt (w : World) (b o : Nat) : Option Value := w.cell? ⟨b, o, none⟩
/-- A marked cell: an int, or a bool. -/
def Mkd (v : Value) : Prop := (∃ m, v = .int .i64 m) ∨ ∃ c, v = .bool c
/-- What mark n is, written over v. -/
def mkV : Value → Int → Value
  | .bool _, n => .bool (n.tmod 3 == 0)
  | _, n => .int .i64 n
def MkC (w : World) (p : Nat × Nat) : Prop := ∃ v, Mkd v ∧ cellAt w p.1 p.2 = some v
/-- Cell p bears mark n. -/
def HvC (w : World) (p : Nat × Nat) (n : Int) : Prop := ∃ v, Mkd v ∧ cellAt w p.1 p.2 = some (mkV v n)
theorem mkV_mkV {v : Value} (n m : Int) (h : Mkd v) : mkV (mkV v n) m = mkV v m := by
  rcases h with ⟨m, rfl⟩ | ⟨c, rfl⟩ <;> rfl
theorem MkC.int {w : World} {b o : Nat} {m : Int} (h : cellAt w b o = some (.int .i64 m)) : MkC w (b, o) := ⟨_, .inl ⟨m, rfl⟩, h⟩
theorem MkC.bool {w : World} {b o : Nat} {c : Bool} (h : cellAt w b o = some (.bool c)) : MkC w (b, o) := ⟨_, .inr ⟨c, rfl⟩, h⟩
theorem HvC.int {w : World} {p : Nat × Nat} {n m : Int} (h : HvC w p n) (hm : cellAt w p.1 p.2 = some (.int .i64 m)) : cellAt w p.1 p.2 = some (.int .i64 n) := by
  obtain ⟨v, h1, h2⟩ := h
  rw [h2] at hm ⊢
  rcases h1 with ⟨m', rfl⟩ | ⟨c, rfl⟩
  · rfl
  · simp [mkV] at hm
theorem HvC.bool {w : World} {p : Nat × Nat} {n : Int} {c : Bool} (h : HvC w p n) (hm : cellAt w p.1 p.2 = some (.bool c)) : cellAt w p.1 p.2 = some (.bool (n.tmod 3 == 0)) := by
  obtain ⟨v, h1, h2⟩ := h
  rw [h2] at hm ⊢
  rcases h1 with ⟨m', rfl⟩ | ⟨c, rfl⟩
  · simp [mkV] at hm
  · rfl

/-! 'v' is a list of this shape; 'as': the places of its int cells, in the order of the marks. -/
mutual
def Lv (lim : Nat → Nat) (w : World) : Sh → Value → List (Nat × Nat) → Prop
  | .slc fs, v, as => ∃ A n c b o, v = .slice A n c ∧ n ≤ maxLen ∧ (n = 0 ∨ A = some ⟨b, o, none⟩) ∧ ∃ ass : List (List (Nat × Nat)), ass.length = n ∧ as = ass.flatten ∧ ∀ i l, ass[i]? = some l → LvF lim w fs b (o + i * fs.len) l
def LvF (lim : Nat → Nat) (w : World) : Fs → Nat → Nat → List (Nat × Nat) → Prop
  | .nil, _, _, as => as = []
  | .cell r, b, o, as => ∃ l, as = (b, o) :: l ∧ o < lim b ∧ (∃ m, cellAt w b o = some (.int .i64 m)) ∧ LvF lim w r b (o + 1) l
  | .flag r, b, o, as => ∃ l, as = (b, o) :: l ∧ o < lim b ∧ (∃ c, cellAt w b o = some (.bool c)) ∧ LvF lim w r b (o + 1) l
  | .skip r, b, o, as => LvF lim w r b (o + 1) as
  | .sub s r, b, o, as => ∃ v l1 l2, as = l1 ++ l2 ∧ o < lim b ∧ cellAt w b o = some v ∧ Lv lim w s v l1 ∧ LvF lim w r b (o + 1) l2
end
/-- .. of a struct that is no memory. -/
def LvA (lim : Nat → Nat) (w : World) : Fs → List Value → List (Nat × Nat) → Prop
  | .nil, _, as => as = []
  | .cell _, _, _ => False
  | .flag _, _, _ => False
  | .skip r, vs, as => LvA lim w r vs.tail as
  | .sub s r, vs, as => ∃ v l1 l2, as = l1 ++ l2 ∧ vs.head? = some v ∧ Lv lim w s v l1 ∧ LvA lim w r vs.tail l2

/-- What may change: a mark for a marked cell. -/
def IntW (lim lim' : Nat → Nat) (w w' : World) : Prop := ∀ b o v, o < lim b → cellAt w b o = some v → o < lim' b ∧ (cellAt w' b o = some v ∨ Mkd v ∧ ∃ n, cellAt w' b o = some (mkV v n))

theorem Lv.slice {lim : Nat → Nat} {w : World} : ∀ {s : Sh} {v as}, Lv lim w s v as → ∃ A n c, v = .slice A n c
  | .slc _, _, _, h => by unfold Lv at h; obtain ⟨A, n, c, _, _, h, _⟩ := h; exact ⟨A, n, c, h⟩

mutual
theorem Lv.mono {lim lim' : Nat → Nat} {w w' : World} (hw : IntW lim lim' w w') : ∀ (s : Sh) (v : Value) (as : List (Nat × Nat)), Lv lim w s v as → Lv lim' w' s v as
  | .slc fs, v, as, h => by
    unfold Lv at h ⊢
    obtain ⟨A, n, c, b, o, h1, h2, h3, ass, h4, h5, h6⟩ := h
    exact ⟨A, n, c, b, o, h1, h2, h3, ass, h4, h5, fun i l hi => LvF.mono hw fs b _ l (h6 i l hi)⟩
theorem LvF.mono {lim lim' : Nat → Nat} {w w' : World} (hw : IntW lim lim' w w') : ∀ (fs : Fs) (b o : Nat) (as : List (Nat × Nat)), LvF lim w fs b o as → LvF lim' w' fs b o as
  | .nil, _, _, as, h => by unfold LvF at h ⊢; exact h
  | .cell r, b, o, as, h => by
    unfold LvF at h ⊢
    obtain ⟨l, h1, h2, ⟨m, h3⟩, h4⟩ := h
    obtain ⟨q1, q2⟩ := hw b _ _ h2 h3
    refine ⟨l, h1, q1, ?_, LvF.mono hw r b _ l h4⟩
    rcases q2 with q2 | ⟨_, m', q2⟩
    · exact ⟨m, q2⟩
    · exact ⟨m', q2⟩
  | .flag r, b, o, as, h => by
    unfold LvF at h ⊢
    obtain ⟨l, h1, h2, ⟨m, h3⟩, h4⟩ := h
    obtain ⟨q1, q2⟩ := hw b _ _ h2 h3
    refine ⟨l, h1, q1, ?_, LvF.mono hw r b _ l h4⟩
    rcases q2 with q2 | ⟨_, m', q2⟩
    · exact ⟨m, q2⟩
    · exact ⟨_, q2⟩
  | .skip r, b, o, as, h => by
    unfold LvF at h ⊢
    exact LvF.mono hw r b _ as h
  | .sub s r, b, o, as, h => by
    unfold LvF at h ⊢
    obtain ⟨v, l1, l2, h1, h2, h3, h4, h5⟩ := h
    obtain ⟨q1, q2⟩ := hw b _ _ h2 h3
    refine ⟨v, l1, l2, h1, q1, ?_, Lv.mono hw s v l1 h4, LvF.mono hw r b _ l2 h5⟩
    rcases q2 with q2 | ⟨q2, _⟩
    · exact q2
    · obtain ⟨A, n, c, e⟩ := h4.slice
      rw [e] at q2
      rcases q2 with ⟨m, q2⟩ | ⟨m, q2⟩ <;> cases q2
end
theorem LvA.mono {lim lim' : Nat → Nat} {w w' : World} (hw : IntW lim lim' w w') : ∀ (fs : Fs) (vs : List Value) (as : List (Nat × Nat)), LvA lim w fs vs as → LvA lim' w' fs vs as
  | .nil, _, as, h => by unfold LvA at h ⊢; exact h
  | .cell _, _, _, h => by unfold LvA at h; exact h.elim
  | .flag _, _, _, h => by unfold LvA at h; exact h.elim
  | .skip r, vs, as, h => by
    unfold LvA at h ⊢
    exact LvA.mono hw r _ as h
  | .sub s r, vs, as, h => by
    unfold LvA at h ⊢
    obtain ⟨v, l1, l2, h1, h2, h3, h4⟩ := h
    exact ⟨v, l1, l2, h1, h2, Lv.mono hw s v l1 h3, LvA.mono hw r _ l2 h4⟩

mutual
theorem Lv.ints {lim : Nat → Nat} {w : World} : ∀ (s : Sh) (v : Value) (as : List (Nat × Nat)), Lv lim w s v as → ∀ p ∈ as, p.2 < lim p.1 ∧ MkC w p
  | .slc fs, v, as, h => by
    unfold Lv at h
    obtain ⟨A, n, c, b, o, h1, h2, h3, ass, h4, h5, h6⟩ := h
    intro p hp
    rw [h5, List.mem_flatten] at hp
    obtain ⟨l, hl, hp⟩ := hp
    obtain ⟨i, hi⟩ := List.getElem?_of_mem hl
    exact LvF.ints fs b _ l (h6 i l hi) p hp
theorem LvF.ints {lim : Nat → Nat} {w : World} : ∀ (fs : Fs) (b o : Nat) (as : List (Nat × Nat)), LvF lim w fs b o as → ∀ p ∈ as, p.2 < lim p.1 ∧ MkC w p
  | .nil, _, _, as, h => by unfold LvF at h; subst h; simp
  | .cell r, b, o, as, h => by
    unfold LvF at h
    obtain ⟨l, h1, h2, h3, h4⟩ := h
    subst h1
    intro p hp
    rcases List.mem_cons.1 hp with rfl | hp
    · obtain ⟨m, h3⟩ := h3; exact ⟨h2, MkC.int h3⟩
    · exact LvF.ints r b _ l h4 p hp
  | .flag r, b, o, as, h => by
    unfold LvF at h
    obtain ⟨l, h1, h2, h3, h4⟩ := h
    subst h1
    intro p hp
    rcases List.mem_cons.1 hp with rfl | hp
    · obtain ⟨m, h3⟩ := h3; exact ⟨h2, MkC.bool h3⟩
    · exact LvF.ints r b _ l h4 p hp
  | .skip r, b, o, as, h => by
    unfold LvF at h
    exact LvF.ints r b _ as h
  | .sub s r, b, o, as, h => by
    unfold LvF at h
    obtain ⟨v, l1, l2, h1, h2, h3, h4, h5⟩ := h
    subst h1
    intro p hp
    rcases List.mem_append.1 hp with hp | hp
    · exact Lv.ints s v l1 h4 p hp
    · exact LvF.ints r b _ l2 h5 p hp
end
theorem LvA.ints {lim : Nat → Nat} {w : World} : ∀ (fs : Fs) (vs : List Value) (as : List (Nat × Nat)), LvA lim w fs vs as → ∀ p ∈ as, p.2 < lim p.1 ∧ MkC w p
  | .nil, _, as, h => by unfold LvA at h; subst h; simp
  | .cell _, _, _, h => by unfold LvA at h; exact h.elim
  | .flag _, _, _, h => by unfold LvA at h; exact h.elim
  | .skip r, vs, as, h => by
    unfold LvA at h
    exact LvA.ints r _ as h
  | .sub s r, vs, as, h => by
    unfold LvA at h
    obtain ⟨v, l1, l2, h1, h2, h3, h4⟩ := h
    subst h1
    intro p hp
    rcases List.mem_append.1 hp with hp | hp
    · exact Lv.ints s v l1 h3 p hp
    · exact LvA.ints r _ l2 h4 p hp

/-! Writing. -/
end Go.Lg
/-
  Lg, part 33: a labelled tree's int cells are places apart from each other; what bears other labels stands when they are written.
-/
namespace Go.Lg
open Go Go.RowKit

def Tk.still : Tk → Bool
  | .own .. => false
  | _ => true
def D.plain : D → Bool
  | .int .. | .bool _ | .str _ => true
  | _ => false
/-! 'd' reads as a list of this shape, whose every block bears a label of its own (beginning with 'p'); 'n' marked ints. -/
mutual
def LT : Sh → List Nat → D → Nat → Prop
  | .slc fs, p, d, n => ∃ (tk : Tk) (xs : List D) (ns : List Nat), d = .sl tk xs ∧ tk.still = true ∧ (xs = [] ∨ tk = .lab p) ∧ ns.length = xs.length ∧ n = ns.sum ∧ ∀ (i : Nat) x m, xs[i]? = some x → ns[i]? = some m → LF fs (p ++ [i]) 0 x.cells m
def LF : Fs → List Nat → Nat → List D → Nat → Prop
  | .nil, _, _, cs, n => n = 0 ∧ cs = []
  | .cell r, p, j, cs, n => ∃ m k t, cs = .int .i64 m :: t ∧ n = k + 1 ∧ LF r p (j + 1) t k
  | .flag r, p, j, cs, n => ∃ c k t, cs = .bool c :: t ∧ n = k + 1 ∧ LF r p (j + 1) t k
  | .skip r, p, j, cs, n => ∃ c t, cs = c :: t ∧ c.plain = true ∧ LF r p (j + 1) t n
  | .sub s r, p, j, cs, n => ∃ d k1 k2 t, cs = d :: t ∧ n = k1 + k2 ∧ LT s (p ++ [j]) d k1 ∧ LF r p (j + 1) t k2
end
theorem LF.len : ∀ (fs : Fs) (p : List Nat) (j : Nat) (cs : List D) (n : Nat), LF fs p j cs n → cs.length = fs.len
  | .nil, _, _, _, _, h => by unfold LF at h; rw [h.2]; rfl
  | .cell r, p, j, cs, n, h => by
    unfold LF at h
    obtain ⟨m, k, t, rfl, _, h⟩ := h
    simp [Fs.len, LF.len r p _ t k h]
  | .flag r, p, j, cs, n, h => by
    unfold LF at h
    obtain ⟨m, k, t, rfl, _, h⟩ := h
    simp [Fs.len, LF.len r p _ t k h]
  | .skip r, p, j, cs, n, h => by
    unfold LF at h
    obtain ⟨c, t, rfl, _, h⟩ := h
    simp [Fs.len, LF.len r p _ t n h]
  | .sub s r, p, j, cs, n, h => by
    unfold LF at h
    obtain ⟨d, k1, k2, t, rfl, _, _, h⟩ := h
    simp [Fs.len, LF.len r p _ t k2 h]

theorem plain_rel {G G' : Ghost} {w w' : World} {d : D} {v : Value} (h : d.plain = true) (hr : Rel G w d v) : Rel G' w' d v := by
  cases d <;> simp [D.plain] at h <;> cases hr
  · exact .int
  · exact .bool
  · exact .str

/-- The j-th cell of element i. -/
theorem flat_elem {s : Nat} {xs : List D} (h : ∀ x ∈ xs, x.cells.length = s) {q : Nat} {d : D} (hq : (flat xs)[q]? = some d) : ∃ i j x, xs[i]? = some x ∧ x.cells[j]? = some d ∧ q = i * s + j ∧ j < s := by
  induction xs generalizing q with
  | nil => simp [flat] at hq
  | cons x xs ih =>
    rw [flat_cons] at hq
    have hx := h x List.mem_cons_self
    by_cases hl : q < x.cells.length
    · rw [List.getElem?_append_left hl] at hq
      exact ⟨0, q, x, rfl, hq, by omega, by omega⟩
    · rw [List.getElem?_append_right (by omega)] at hq
      obtain ⟨i, j, y, h1, h2, h3, h4⟩ := ih (fun y hy => h y (List.mem_cons_of_mem _ hy)) hq
      refine ⟨i + 1, j, y, by simpa using h1, h2, ?_, h4⟩
      rw [Nat.add_mul]; omega

mutual
theorem LT.keeps {G : Ghost} {w w' : World} : ∀ (s : Sh) (q : List Nat) (d : D) (n : Nat), LT s q d n → q ≠ [] → (∀ b o v, q <+: G.lab b → cellAt w b o = some v → cellAt w' b o = some v) → ∀ v, Rel G w d v → Rel G w' d v
  | .slc fs, q, d, n, h, hq0, hf, v, hr => by
    unfold LT at h
    obtain ⟨tk, xs, ns, rfl, ht, hx, hn, _, hel⟩ := h
    cases hr with
    | @sl _ _ A m c b o s hlen hc hm htk hA hu hk hst hrr =>
    have htk' : TkOk G w' tk xs A m c := by
      cases tk <;> first | exact htk | (simp [Tk.still] at ht)
    by_cases hxs : xs = []
    · subst hxs
      exact .sl (b := b) (o := o) (s := s) hlen hc hm htk' (.inl rfl) hu hk (by simp [flat]) (by simp [flat])
    · obtain rfl : tk = .lab q := hx.resolve_left hxs
      obtain ⟨g, o', e1, e2, _⟩ := htk.resolve_left hxs
      have hA' := hA.resolve_left hxs
      rw [e1] at hA'
      obtain ⟨rfl, rfl⟩ : g = b ∧ o' = o := by simpa using hA'
      refine .sl (b := g) (o := o') (s := s) hlen hc hm htk' hA hu hk (fun j d hj => ?_) (fun j d u hj hu' => ?_)
      · obtain ⟨h1, u, h2⟩ := hst j d hj
        exact ⟨h1, u, hf g _ u (e2 ▸ List.prefix_refl _) h2⟩
      · obtain ⟨h1, u', h2⟩ := hst j d hj
        have h3 := hf g _ u' (e2 ▸ List.prefix_refl _) h2
        rw [show cellAt w' g (o' + j) = some u from hu'] at h3
        obtain rfl := Option.some.inj h3
        obtain ⟨i, j', x, k1, k2, k3, k4⟩ := flat_elem hu hj
        have hi : i < ns.length := by rw [hn]; exact (List.getElem?_eq_some_iff.1 k1).1
        exact LF.keeps fs (q ++ [i]) 0 x.cells _ (hel i x _ k1 (List.getElem?_eq_getElem hi)) (by simp) (fun b o v hb hv => hf b o v ((List.prefix_append q [i]).trans hb) hv) j' d k2 u (hrr j d u hj h2)
theorem LF.keeps {G : Ghost} {w w' : World} : ∀ (fs : Fs) (q : List Nat) (j : Nat) (cs : List D) (n : Nat), LF fs q j cs n → q ≠ [] → (∀ b o v, q <+: G.lab b → cellAt w b o = some v → cellAt w' b o = some v) → ∀ (i : Nat) (d : D), cs[i]? = some d → ∀ v, Rel G w d v → Rel G w' d v
  | .nil, _, _, cs, _, h, _, _, i, d, hd, v, hr => by
    unfold LF at h
    rw [h.2] at hd
    simp at hd
  | .cell r, q, j, cs, n, h, hq, hf, i, d, hd, v, hr => by
    unfold LF at h
    obtain ⟨m, k, t, rfl, _, h⟩ := h
    cases i with
    | zero =>
      obtain rfl : D.int .i64 m = d := by simpa using hd
      exact plain_rel rfl hr
    | succ i => exact LF.keeps r q _ t k h hq hf i d (by simpa using hd) v hr
  | .flag r, q, j, cs, n, h, hq, hf, i, d, hd, v, hr => by
    unfold LF at h
    obtain ⟨m, k, t, rfl, _, h⟩ := h
    cases i with
    | zero =>
      obtain rfl : D.bool m = d := by simpa using hd
      exact plain_rel rfl hr
    | succ i => exact LF.keeps r q _ t k h hq hf i d (by simpa using hd) v hr
  | .skip r, q, j, cs, n, h, hq, hf, i, d, hd, v, hr => by
    unfold LF at h
    obtain ⟨c, t, rfl, hp, h⟩ := h
    cases i with
    | zero =>
      obtain rfl : c = d := by simpa using hd
      exact plain_rel hp hr
    | succ i => exact LF.keeps r q _ t n h hq hf i d (by simpa using hd) v hr
  | .sub s r, q, j, cs, n, h, hq, hf, i, d, hd, v, hr => by
    unfold LF at h
    obtain ⟨d0, k1, k2, t, rfl, _, h0, h⟩ := h
    cases i with
    | zero =>
      obtain rfl : d0 = d := by simpa using hd
      exact LT.keeps s (q ++ [j]) d0 k1 h0 (by simp) (fun b o v hb hv => hf b o v ((List.prefix_append q [j]).trans hb) hv) v hr
    | succ i => exact LF.keeps r q _ t k2 h hq hf i d (by simpa using hd) v hr
end

end Go.Lg
/-
  Lg, part 34: functions whose slots hold known values, in a known world (the marks).
-/
namespace Go.Lg
open Go Go.RowKit

structure ME (n : Nat) (E : List (Nat × Value)) (a : Act) : Prop where
  defers : a.defers = []
  size : a.tmps.size = n
  env : ∀ t v, look E t = some v → a.tmps[t]? = some v

theorem ME.put {n : Nat} {E : List (Nat × Value)} {a : Act} (h : ME n E a) {t : Nat} (ht : t < n) (v : Value) : ME n ((t, v) :: E) (a.put (some t) v) := by
  refine ⟨h.defers, by simpa [Act.put] using h.size, fun t' v' hv => ?_⟩
  simp only [look] at hv
  by_cases e : t = t'
  · subst e
    simp only [if_true, Option.some.injEq] at hv
    subst hv
    simp [Act.put, h.size, ht]
  · rw [if_neg e] at hv
    simp only [Act.put]
    rw [Array.getElem?_setIfInBounds_ne e]
    exact h.env t' v' hv

section ops
variable {P : Program} {n : Nat} {ops : Array Oper} {l : List Oper} {E : List (Nat × Value)} {w : World} {K : List (Nat × Value) → World → Prop} {t : Nat} {ty : TypeId} {pos : String} {aft : Array Edge}

end ops

/-! Control. -/
inductive MItem where
  | code (c : Code)
  | inBlock (id : Nat)
  | loopEnd (J : List (Nat × Value) → World → Prop)
section ctl
variable {P : Program} {n : Nat} {R : List (Nat × Value) → World → Prop} {k : List MItem} {E : List (Nat × Value)} {w : World}
/-- Knowing less. -/
def coversM (E E' : List (Nat × Value)) : Prop := ∀ p ∈ E', look E p.1 = some p.2
theorem ME.less {E' : List (Nat × Value)} {a : Act} (h : ME n E a) (hc : coversM E E') : ME n E' a := ⟨h.defers, h.size, fun t v hv => h.env t v (hc (t, v) (mem_of_look hv))⟩
end ctl

end Go.Lg
/-
  Lg, part 35: what the marking and the checking functions do, and the frame of their proofs.
-/
namespace Go.Lg
open Go Go.RowKit

/-- The world has only grown. -/
structure Grown (w w' : World) : Prop where
  size : w.heap.size ≤ w'.heap.size
  old : ∀ b, b < w.heap.size → w'.heap[b]? = w.heap[b]?
  os : w'.os = w.os
  tape : w'.tape = w.tape
  out : w'.output = w.output
  dr : w.drawn ≤ w'.drawn
theorem Grown.refl (w : World) : Grown w w := ⟨Nat.le_refl _, fun _ _ => rfl, rfl, rfl, rfl, Nat.le_refl _⟩
theorem Grown.trans {w w' w'' : World} (h : Grown w w') (h' : Grown w' w'') : Grown w w'' :=
  ⟨Nat.le_trans h.size h'.size, fun b hb => (h'.old b (Nat.lt_of_lt_of_le hb h.size)).trans (h.old b hb), h'.os.trans h.os, h'.tape.trans h.tape, h'.out.trans h.out, Nat.le_trans h.dr h'.dr⟩
theorem Grown.alloc (w : World) (c : Array Value) (t : TypeId) : Grown w (w.alloc (.cells c t)) :=
  ⟨by simp, fun b hb => heap_alloc_old w _ hb, rfl, rfl, rfl, Nat.le_refl _⟩
theorem Grown.cellAt {w w' : World} (h : Grown w w') {b o : Nat} {v : Value} (hv : Lg.cellAt w b o = some v) : Lg.cellAt w' b o = some v := by
  have hb := cell_lt (show w.cell? ⟨b, o, none⟩ = some v from hv)
  have : w'.cell? ⟨b, o, none⟩ = some v := by rw [cell_of_heap (h.old b hb)]; exact hv
  exact this
theorem HvC.grown {w w' : World} (h : Grown w w') {p : Nat × Nat} {n : Int} (hp : HvC w p n) : HvC w' p n := by
  obtain ⟨v, h1, h2⟩ := hp
  exact ⟨v, h1, h.cellAt h2⟩
/-- The places 'as' have been written with k, k + 1 ..; all else stands; the world may have grown. -/
structure Marked (w : World) (as : List (Nat × Nat)) (k : Int) (w' : World) : Prop where
  size : w.heap.size ≤ w'.heap.size
  other : ∀ b, b < w.heap.size → (∀ q ∈ as, q.1 ≠ b) → w'.heap[b]? = w.heap[b]?
  cells : ∀ (b : Nat) (vs : Array Value) (e : TypeId), w.heap[b]? = some (.cells vs e (0, 0)) → ∃ vs', w'.heap[b]? = some (.cells vs' e (0, 0)) ∧ vs'.size = vs.size
  off : ∀ b o v, (b, o) ∉ as → cellAt w b o = some v → cellAt w' b o = some v
  ints : ∀ b o v, cellAt w b o = some v → cellAt w' b o = some v ∨ (b, o) ∈ as ∧ Mkd v ∧ ∃ n, cellAt w' b o = some (mkV v n)
  at_ : as.Nodup → ∀ (j : Nat) q, as[j]? = some q → HvC w' q (k + j)
  os : w'.os = w.os
  tape : w'.tape = w.tape
  out : w'.output = w.output
  dr : w.drawn ≤ w'.drawn
theorem Marked.append {w w' w'' : World} {l1 l2 : List (Nat × Nat)} {k : Int} (h : Marked w l1 k w') (h' : Marked w' l2 (k + l1.length) w'') : Marked w (l1 ++ l2) k w'' := by
  refine ⟨Nat.le_trans h.size h'.size, fun b hb hq => ?_, fun b vs e hb => ?_, fun b o v hn hv => ?_, fun b o v hv => ?_, fun hn j q hj => ?_, h'.os.trans h.os, h'.tape.trans h.tape, h'.out.trans h.out, Nat.le_trans h.dr h'.dr⟩
  · rw [h'.other b (Nat.lt_of_lt_of_le hb h.size) fun q hq' => hq q (List.mem_append_right _ hq'), h.other b hb fun q hq' => hq q (List.mem_append_left _ hq')]
  · obtain ⟨vs1, q1, q2⟩ := h.cells b vs e hb
    obtain ⟨vs2, q3, q4⟩ := h'.cells b vs1 e q1
    exact ⟨vs2, q3, q4.trans q2⟩
  · exact h'.off b o v (fun hm => hn (List.mem_append_right _ hm)) (h.off b o v (fun hm => hn (List.mem_append_left _ hm)) hv)
  · rcases h.ints b o v hv with q | ⟨hm, hk, m, q⟩
    · rcases h'.ints b o v q with q | ⟨hm, q⟩
      · exact .inl q
      · exact .inr ⟨List.mem_append_right _ hm, q⟩
    · rcases h'.ints b o _ q with q | ⟨hm', _, m2, q⟩
      · exact .inr ⟨List.mem_append_left _ hm, hk, m, q⟩
      · exact .inr ⟨List.mem_append_left _ hm, hk, m2, by rw [q, mkV_mkV _ _ hk]⟩
  · obtain ⟨n1, n2, n3⟩ := List.nodup_append.1 hn
    by_cases hjl : j < l1.length
    · rw [List.getElem?_append_left hjl] at hj
      have hm := List.mem_of_getElem? hj
      obtain ⟨v, e1, e2⟩ := h.at_ n1 j q hj
      exact ⟨v, e1, h'.off q.1 q.2 _ (fun hm' => n3 q hm q hm' rfl) e2⟩
    · rw [List.getElem?_append_right (by omega)] at hj
      have := h'.at_ n2 _ q hj
      rwa [show k + (l1.length : Int) + ((j - l1.length : Nat) : Int) = k + (j : Int) by omega] at this

section steps
variable {lim : Nat → Nat} {w : World}
theorem LvF.skip_step {r : Fs} {b o : Nat} {as : List (Nat × Nat)} (h : LvF lim w (.skip r) b o as) : LvF lim w r b (o + 1) as := by unfold LvF at h; exact h
theorem LvA.skip_step {r : Fs} {v : Value} {vs : List Value} {as : List (Nat × Nat)} (h : LvA lim w (.skip r) (v :: vs) as) : LvA lim w r vs as := by unfold LvA at h; exact h
end steps

end Go.Lg
/-
  Lg, part 36: marks in a statement's own body: a fresh start (what is old stays as it was), the regions that mark, what is known of what was marked.
-/
namespace Go.Lg
open Go Go.RowKit

def B0 (B : Base) : Ghost := ⟨B.lim, B.lab, fun _ => none, fun _ => none⟩
/-- What was read as 'd' when B began, and still is. -/
def KnI (B : Base) (d : D) : Ghost → World → Value → Prop := fun G w v => Rel (B0 B) B.w d v ∧ Mono (B0 B) G B.w w
def KD (B : Base) (d : D) : D := .pred (KnI B d)
/-! What is known of a value that was marked. -/
def HeldI (s : Sh) (k : Int) (n : Nat) : Ghost → World → Value → Prop := fun G w v => ∃ qs, Lv G.lim w s v qs ∧ qs.length = n ∧ ∀ (j : Nat) q, qs[j]? = some q → HvC w q (k + j)
theorem HeldI.mono {s : Sh} {k : Int} {n : Nat} {G G' : Ghost} {w w' : World} {v : Value} (hm : Mono G G' w w') (h : HeldI s k n G w v) : HeldI s k n G' w' v := by
  obtain ⟨qs, h1, h2, h3⟩ := h
  refine ⟨qs, Lv.mono (fun b o v h1 h2 => ⟨(hm.cell b o v h1 h2).1, .inl (hm.cell b o v h1 h2).2⟩) s v qs h1, h2, fun j q hj => ?_⟩
  obtain ⟨v0, e1, e2⟩ := h3 j q hj
  exact ⟨v0, e1, (hm.cell _ _ _ (Lv.ints s v qs h1 q (List.mem_of_getElem? hj)).1 e2).2⟩
def HD (s : Sh) (k : Int) (n : Nat) : D := .pred (HeldI s k n)
/-- .. of the cells of a struct: before and after. -/
def TA : Fs → List Nat → Nat → Int → List D → List D → Nat → Prop
  | .nil, _, _, _, cs, cs', n => cs = [] ∧ cs' = [] ∧ n = 0
  | .cell _, _, _, _, _, _, _ => False
  | .flag _, _, _, _, _, _, _ => False
  | .skip r, p, j, k, cs, cs', n => ∃ c t t', cs = c :: t ∧ cs' = c :: t' ∧ c.plain = true ∧ TA r p (j + 1) k t t' n
  | .sub s r, p, j, k, cs, cs', n => ∃ d m n' t t', cs = d :: t ∧ cs' = HD s k m :: t' ∧ n = m + n' ∧ LT s (p ++ [j]) d m ∧ TA r p (j + 1) (k + m) t t' n'
theorem TA.len : ∀ (fs : Fs) (p : List Nat) (j : Nat) (k : Int) (cs cs' : List D) (n : Nat), TA fs p j k cs cs' n → cs.length = fs.len ∧ cs'.length = cs.length
  | .nil, p, j, k, cs, cs', n, h => by
    unfold TA at h
    obtain ⟨rfl, rfl, _⟩ := h
    exact ⟨rfl, rfl⟩
  | .cell _, _, _, _, _, _, _, h => by unfold TA at h; exact h.elim
  | .flag _, _, _, _, _, _, _, h => by unfold TA at h; exact h.elim
  | .skip r, p, j, k, cs, cs', n, h => by
    unfold TA at h
    obtain ⟨c, t, t', rfl, rfl, _, h⟩ := h
    obtain ⟨h1, h2⟩ := TA.len r _ _ _ _ _ _ h
    simp [Fs.len, h1, h2]
  | .sub s r, p, j, k, cs, cs', n, h => by
    unfold TA at h
    obtain ⟨d, m, n', t, t', rfl, rfl, _, _, h⟩ := h
    obtain ⟨h1, h2⟩ := TA.len r _ _ _ _ _ _ h
    simp [Fs.len, h1, h2]
end Go.Lg
/-
  Lg, part 37: the fresh start of a statement's body, and the regions that mark.
-/
namespace Go.Lg
open Go Go.RowKit

section regions
variable {S : Setup} {B : Base} {R : LS → Prop} {kk : List VItem} {L L' : LS} {A M t1 t2 t3 id : Nat} {ty1 ty2 ty3 ty4 : TypeId} {p1 p2 p3 p4 : String} {a1 a2 a3 a4 : Array Edge} {tys : Array TypeId} {f : FuncId} {i n N : Nat} {k : Int}

end regions
end Go.Lg
/-
  Lg, part 38: what was made by 'make' and filled, labelled; labelled lists whose elements bear labels by their place.
-/
namespace Go.Lg
open Go Go.RowKit

section
variable {S : Setup} {B : Base} {R : LS → Prop} {k : List VItem} {L : LS}
end

/-- A list whose elements' labels go by their place. -/
def mapR {α : Type} [Inhabited α] (g : Nat → α → D) (xs : List α) : List D := (List.range xs.length).map fun j => g j (xs.getD j default)
theorem mapR_length {α : Type} [Inhabited α] (g : Nat → α → D) (xs : List α) : (mapR g xs).length = xs.length := by simp [mapR]
/-- The first i elements of it. -/
def upR {α : Type} [Inhabited α] (g : Nat → α → D) (xs : List α) (i : Nat) : List D := (List.range i).map fun j => g j (xs.getD j default)
theorem upR_length {α : Type} [Inhabited α] (g : Nat → α → D) (xs : List α) (i : Nat) : (upR g xs i).length = i := by simp [upR]
theorem upR_mem {α : Type} [Inhabited α] {g : Nat → α → D} {xs : List α} {i : Nat} {P : D → Prop} (h : ∀ j x, P (g j x)) : ∀ d ∈ upR g xs i, P d := fun d hd => by
  obtain ⟨j, _, rfl⟩ := List.mem_map.1 hd
  exact h j _
theorem mapR_getDm {α : Type} [Inhabited α] {g : Nat → α → D} {xs : List α} {i : Nat} (h : Om (i < xs.length)) : (mapR g xs).getD i default = g i (xs.getD i default) := by
  have h : i < xs.length := h.out
  unfold mapR
  simp only [List.getD, List.getElem?_map, List.getElem?_range h, Option.map_some, Option.getD_some]
end Go.Lg
/-
  Lg, part 39: the marking regions, the state behind them reckoned.
-/
namespace Go.Lg
open Go Go.RowKit

section regions
variable {S : Setup} {B : Base} {R : LS → Prop} {kk : List VItem} {L : LS} {A M t1 t2 t3 id : Nat} {ty1 ty2 ty3 ty4 : TypeId} {p1 p2 p3 p4 : String} {a1 a2 a3 a4 : Array Edge} {tys : Array TypeId} {f : FuncId} {i n N : Nat} {k : Int}

end regions
section
variable (B : Base) (d : D) (s : Sh) (k : Int) (n : Nat)
theorem KD_ids : (KD B d).ids = [] := rfl
theorem KD_tks : (KD B d).tks = [] := rfl
theorem KD_cells : (KD B d).cells = [KD B d] := rfl
theorem KD_pu1 (p : Nat → Bool) : D.pu1 p (KD B d) = KD B d := rfl
theorem KD_pu (p : Nat → Bool) : D.pu p (KD B d) = KD B d := rfl
theorem KD_shT (o : Nat) : D.shT o (KD B d) = KD B d := rfl
theorem HD_ids : (HD s k n).ids = [] := rfl
theorem HD_tks : (HD s k n).tks = [] := rfl
theorem HD_cells : (HD s k n).cells = [HD s k n] := rfl
theorem HD_pu1 (p : Nat → Bool) : D.pu1 p (HD s k n) = HD s k n := rfl
theorem HD_pu (p : Nat → Bool) : D.pu p (HD s k n) = HD s k n := rfl
theorem HD_shT (o : Nat) : D.shT o (HD s k n) = HD s k n := rfl
end
attribute [go_sem] KD_ids KD_tks KD_cells KD_pu1 KD_pu KD_shT HD_ids HD_tks HD_cells HD_pu1 HD_pu HD_shT
/-- As 'sw_tok', in a cell of a box. -/
theorem sw_tokBox {S : Setup} {B : Base} {R : LS → Prop} {kk : List VItem} {L : LS} (id j k : Nat) (e : TypeId) (z : Nat) {cs : List D} (hb : look (L.purge (fun x => x == k)).boxes id = some cs) (hj : cs[j]? = some (.sl .nil [])) (hc : (L.purge (fun x => x == k)).clean (fun x => x == k) = true)
    (h : SW S B R kk { L.purge (fun x => x == k) with boxes := setA (L.purge (fun x => x == k)).boxes id (cs.set j (.sl (.own k e z) [])), toks := k :: L.toks }) : SW S B R kk L := fun G a w hs => by
  have hp := purge_sim hs (fun x => x == k)
  have hstep : TokStep B G (G.setTok k (some none)) w w k := {
    mono := ⟨fun _ _ _ h1 h2 => ⟨h1, h2⟩, fun _ _ => rfl⟩
    beta := rfl, lab := rfl, sz := Nat.le_refl _, os := rfl, tape := rfl, out := rfl, dr := by first | exact Nat.le_refl _ | exact Nat.le_succ _
    tau := fun k' hk' => .inr ⟨by simp [Ghost.setTok, hk'], fun _ _ _ _ => ⟨rfl, rfl⟩⟩
    block := fun _ _ => .inl ⟨rfl, rfl⟩
    new := fun g e' z' hg => by simp [Ghost.setTok] at hg
    live := by simp [Ghost.setTok] }
  have hsim := tokStep_sim hp hstep hc (tk := k :: L.toks) (fun k' hk' => by
    by_cases e : k' = k
    · exact .inl e
    · rcases List.mem_cons.1 hk' with h | h
      · exact absurd h e
      · exact .inr ⟨by simp [Ghost.setTok, e], h⟩)
  refine h _ a w ⟨hsim.defers, hsim.size, hsim.env, { hsim.W with boxes := fun i c hi => ?_ }, hsim.fixed⟩
  simp only [look_setA] at hi
  by_cases e0 : id = i
  · subst e0
    simp only [if_true, Option.some.injEq] at hi
    subst hi
    obtain ⟨g, q1, ⟨vs, e', e1, e2, e3⟩, q3⟩ := hsim.W.boxes id cs hb
    refine ⟨g, q1, ⟨vs, e', e1, by simpa using e2, fun j' d v hd hv => ?_⟩, q3⟩
    by_cases hjj : j = j'
    · subst hjj
      rw [List.getElem?_set_self (List.getElem?_eq_some_iff.1 hj).1] at hd
      obtain rfl := Option.some.inj hd
      have hr := e3 j _ v hj hv
      cases hr with
      | @sl _ _ A n c b o s hn hcc hm ht' hA hu hk hst hr =>
        exact .sl (b := 0) (o := 0) (s := 0) hn hcc hm (by simp only [TkOk, Ghost.setTok, if_true]; exact ⟨ht'.2.1, ht'.2.2⟩) (.inl rfl) (by simp) (by simp [flat]) (by simp [flat]) (by simp [flat])
    · rw [List.getElem?_set_ne hjj] at hd
      exact e3 j' d v hd hv
  · rw [if_neg e0] at hi
    exact hsim.W.boxes i c hi
end Go.Lg
/-
  Lg: a call that wants tokens for empty lists takes fresh empty lists.
-/
namespace Go.Lg
open Go Go.RowKit
variable {S : Setup}
theorem baseOf_emp (G : Ghost) (w : World) (bx : List (Nat × List D)) (tk : List Nat) (k : Nat) (hk : k ∉ tk) : baseOf (G.setTok k (some none)) w bx (k :: tk) = baseOf G w bx tk := by
  unfold baseOf
  congr 1
  funext b
  refine propext ⟨?_, ?_⟩
  · rintro (h | ⟨k', h1, e, z, h2⟩)
    · exact .inl h
    · refine .inr ⟨k', ?_, e, z, ?_⟩
      · rcases List.mem_cons.1 h1 with rfl | h1
        · simp [Ghost.setTok] at h2
        · exact h1
      · rcases List.mem_cons.1 h1 with rfl | h1
        · simp [Ghost.setTok] at h2
        · have : k' ≠ k := fun e => hk (e ▸ h1)
          simpa [Ghost.setTok, this] using h2
  · rintro (h | ⟨k', h1, e, z, h2⟩)
    · exact .inl h
    · have : k' ≠ k := fun e => hk (e ▸ h1)
      exact .inr ⟨k', List.mem_cons_of_mem _ h1, e, z, by simpa [Ghost.setTok, this] using h2⟩
theorem FC.emp {f : FuncId} {ro bx bx' : List (Nat × List D)} {tk tk' : List Nat} {args args' : List D} {d : D} (i k : Nat) (e : TypeId) (z : Nat) {t : Tk} (h : FC S f ro bx (k :: tk) args' d bx' tk')
    (hl : args'.length = args.length) (ht : look (enumD 0 args) i = some (.sl t [])) (htk : t = .nil ∨ t = .full) (hk : k ∉ tk) (hc : (LS.mk args.length (enumD 0 args) bx ro tk (bx.map (·.1))).clean (fun x => x == k) = true)
    (he : enumD 0 args' = setA (enumD 0 args) i (.sl (.own k e z) [])) : FC S f ro bx tk args d bx' tk' := ⟨h.1, fun w G vals hs => by
  obtain ⟨v, hv, hr⟩ := hs.env i _ ht
  have hstep : TokStep (baseOf G w bx tk) G (G.setTok k (some none)) w w k := {
    mono := ⟨fun _ _ _ h1 h2 => ⟨h1, h2⟩, fun _ _ => rfl⟩
    beta := rfl, lab := rfl, sz := Nat.le_refl _, os := rfl, tape := rfl, out := rfl, dr := by first | exact Nat.le_refl _ | exact Nat.le_succ _
    tau := fun k' hk' => .inr ⟨by simp [Ghost.setTok, hk'], fun _ _ _ _ => ⟨rfl, rfl⟩⟩
    block := fun _ _ => .inl ⟨rfl, rfl⟩
    new := fun g e' z' hg => by simp [Ghost.setTok] at hg
    live := by simp [Ghost.setTok] }
  have hsim := tokStep_sim hs hstep hc (tk := k :: tk) (fun k' hk' => by
    by_cases e : k' = k
    · exact .inl e
    · rcases List.mem_cons.1 hk' with h | h
      · exact absurd h e
      · exact .inr ⟨by simp [Ghost.setTok, e], h⟩)
  have h2 := h.2 w (G.setTok k (some none)) vals
  rw [baseOf_emp G w bx tk k hk, hl, he] at h2
  refine h2 (env_set hsim hv ?_)
  cases hr with
  | @sl _ _ A n c b o s hn hcc hm ht' hA hu hk hst hr =>
    have h0 : n = 0 := hn
    have hc0 : c = 0 := by
      rcases htk with rfl | rfl
      · exact ht'.2.2
      · have : n = c := ht'
        omega
    exact .sl (b := 0) (o := 0) (s := 0) hn hcc hm (by simp only [TkOk, Ghost.setTok, if_true]; exact ⟨h0, hc0⟩) (.inl rfl) (by simp) (by simp [flat]) (by simp [flat]) (by simp [flat])⟩
end Go.Lg
/-
  Lg: a region that draws its order, of which the first operation, a plain reading of a slot, may stand anywhere ahead of the last part; one operation of any kind in the middle.
-/
namespace Go.Lg
open Go Go.RowKit
section
variable {S : Setup} {md : Region.Mode} {ops : Array Oper} {bx : Nat → Option (List D)} {n m h0 : Nat}
def TailH (md : Region.Mode) (ops : Array Oper) (h m : Nat) : Prop := ∀ k, m ≤ k → k < ops.size → ∀ j, h ≤ j → j < m → j ∈ clos md ops k (ons md ops k)
structure InvH (md : Region.Mode) (ops : Array Oper) (h m f : Nat) (listed : Array Bool) : Prop where
  inv : InvT md ops m f listed
  pre : ∀ j < h, listed.getD j false = true
theorem InvH.lt {m f i : Nat} {listed : Array Bool} (hB : TailH md ops h0 m) (h : InvH md ops h0 m (f + 1) listed) (hi : i ∈ Region.ready md ops listed) : i < m := by
  refine Nat.lt_of_not_le fun hm => ?_
  have hall : ∀ j < m, listed.getD j false = true := fun j hj => by
    rcases Nat.lt_or_ge j h0 with h1 | h1
    · exact h.pre j h1
    · exact clos_listed h.inv.down _ _ (ready_ons hi) j (hB i hm (ready_lt hi) j h1 hj)
  have : cntU m listed = 0 := by
    unfold cntU
    rw [List.length_eq_zero_iff, List.filter_eq_nil_iff]
    intro j hj
    have hj := List.mem_range.1 hj
    have h1 := hall j (by omega)
    have hlt : j < listed.size := by
      rcases Nat.lt_or_ge j listed.size with h' | h'
      · exact h'
      · simp [Array.getElem?_eq_none h'] at h1
    simp [hlt] at h1 ⊢
    exact h1
  rw [h.inv.cnt] at this
  omega
theorem InvH.set {m f i : Nat} {listed : Array Bool} (h : InvH md ops h0 m (f + 1) listed) (hi : i ∈ Region.ready md ops listed) (him : i < m) : InvH md ops h0 m f (listed.setIfInBounds i true) :=
  ⟨h.inv.set hi him, fun j hj => getD_set_true (h.pre j hj)⟩
end
theorem wpAny_monoQ {P : Program} {md : Region.Mode} {ops : Array Oper} {Q Q' : Exit → Act → World → Prop} (h : ∀ e a w, Q e a w → Q' e a w) : ∀ (f : Nat) (listed : Array Bool) (a : Act) (w : World), wpAny P md ops Q f listed a w → wpAny P md ops Q' f listed a w
  | 0, _, _, _, hh => ⟨hh.1, h _ _ _ hh.2⟩
  | f + 1, _, a, w, hh => ⟨fun e => h _ _ _ (hh.1 e), fun i hi => by
    have h1 := wpOp_mono (fun a w => wpAny_monoQ h f _ a w) (hh.2 i hi)
    unfold wpOp at h1 ⊢
    split at h1
    · exact h1
    · split at h1
      · rename_i hw
        rw [if_pos hw]
        rcases h1 with h1 | ⟨h1, a, w, h2⟩
        · exact .inl (Oper.wp_congrQ (fun e a w _ hq => h e a w hq) h1)
        · exact .inr ⟨h1, a, w, h _ _ _ h2⟩
      · rename_i hw
        rw [if_neg hw]
        exact h1⟩
end Go.Lg
/-
  Lg: a list literal that is going to be appended to, or is a result: it is given a token where it is made.
-/
namespace Go.Lg
open Go Go.RowKit
/-- What is asked behind the first part of the operations. -/
def thenQ (P : Program) (ops : Array Oper) (Q : Exit → Act → World → Prop) (l2 : List Oper) : Exit → Act → World → Prop
  | .normal, a, w => wpList P ops Q l2 a w
  | e, a, w => Q e a w
theorem thenQ_wp {P : Program} {ops : Array Oper} {Q : Exit → Act → World → Prop} {l2 : List Oper} {o : Oper} {a : Act} {w : World} {K K' : Act → World → Prop} (h : ∀ a w, K a w → K' a w)
    (hh : o.wp P a w K (thenQ P ops Q l2)) : o.wp P a w K' Q := by
  unfold Oper.wp at *
  generalize (execOp a.eval o).run P w = r at *
  cases r with
  | ok n w' =>
    cases n <;> simp only [Oper.upon] at hh ⊢ <;>
      first
        | exact h _ _ hh
        | exact hh
        | (refine hh.mono fun e w2 h2 => ?_; revert h2; cases e <;> first | exact fun h2 => h _ _ h2 | exact fun h2 => h2)
        | (refine hh.mono fun v w2 h2 => h _ _ h2)
  | halt x w' => cases x <;> simp only [Oper.upon] at hh ⊢ <;> exact hh
theorem wpList_app {P : Program} {ops : Array Oper} {Q : Exit → Act → World → Prop} {l2 : List Oper} : ∀ (l1 : List Oper) (a : Act) (w : World), wpList P ops (thenQ P ops Q l2) l1 a w → wpList P ops Q (l1 ++ l2) a w
  | [], a, w, h => h
  | o :: l1, a, w, h => by
    unfold wpList at h
    rw [List.cons_append]
    unfold wpList
    split at h
    · rename_i hw
      rw [if_pos hw]
      rcases h with h | ⟨h1, h2⟩
      · exact .inl (thenQ_wp (fun a w h => wpList_app l1 a w h) h)
      · exact .inr ⟨h1, h2⟩
    · rename_i hw
      rw [if_neg hw]
      exact wpList_app l1 _ _ h
theorem LopsW.app {S : Setup} {B : Base} {ops : Array Oper} {l l2 : List Oper} {L : LS} {N M : LS → Prop} (h : LopsW S B ops l L N) (hN : ∀ L', N L' → LopsW S B ops l2 L' M) : LopsW S B ops (l ++ l2) L M := fun G a w hs Q hQ =>
  wpList_app l a w (h G a w hs (thenQ S.P ops Q l2) fun L' G' a' w' h1 h2 => hN L' h1 G' a' w' h2 Q hQ)
theorem runL_sound2 {S : Setup} {base : Nat} {B : Base} {ops : Array Oper} {l2 : List Oper} {K : LS → Prop} {K' : List Oper → LS → Prop} (hK : ∀ l L, K' l L → LopsW S B ops (l ++ l2) L K) : ∀ (l : List Oper) (L : LS), runL S base ops K' l L → LopsW S B ops (l ++ l2) L K
  | [], L, h => hK [] L h
  | ⟨dst, op, ty, pos, aft, g⟩ :: l, L, h => by
    unfold runL at h
    split at h
    · exact hK _ L h
    · split at h
      · rename_i hg
        intro G a w hs Q hQ
        refine wpList_step fun N hN => ?_
        rw [if_pos (guardY_sound (S := S) rfl hs (o := ⟨dst, op, ty, pos, aft, g⟩) hg)]
        exact Oper.wp_mono (fun a' w' h' => hN a' w' h') (stepY_mono h (fun L' h' => runL_sound2 hK l L' h') G a w hs Q hQ)
      · rename_i hg
        exact LopsW.skip (o := ⟨dst, op, ty, pos, aft, g⟩) hg h.1 (runL_sound2 hK l _ h.2)
      · exact hK _ L h
end Go.Lg
/-
  Lg: slices.SortFunc of a list of lists in a box, out of the kit's contract and a contract of the comparing function.
-/
namespace Go.Lg
open Go Go.RowKit
end Go.Lg
/-
  Lg: labels of new lists are given anew (a sort has put the lists into another order); bodies whose base is known to bear no label with a given head.
-/
namespace Go.Lg
open Go Go.RowKit
/-- the base bears no label that begins with N -/
def Base.off (B : Base) (N : Nat) : Prop := (∀ b, ¬ B.ab b) ∧ ∀ b l, B.lab b ≠ N :: l
theorem exists_off {G : Ghost} {w : World} (h : ∀ b, G.lab b ≠ [] → b < w.heap.size) : ∃ N, ∀ b l, G.lab b ≠ N :: l := by
  have : ∀ n, ∃ N, ∀ b, b < n → ∀ m l, G.lab b = m :: l → m < N := fun n => by
    induction n with
    | zero => exact ⟨0, fun b hb => absurd hb (by omega)⟩
    | succ n ih =>
      obtain ⟨N, hN⟩ := ih
      refine ⟨max N ((G.lab n).headD 0 + 1), fun b hb m l e => ?_⟩
      rcases Nat.lt_succ_iff_lt_or_eq.1 hb with hb | rfl
      · have := hN b hb m l e; omega
      · rw [e]; simp only [List.headD_cons]; omega
  obtain ⟨N, hN⟩ := this w.heap.size
  exact ⟨N, fun b l e => absurd (hN b (h b (by rw [e]; simp)) N l e) (by omega)⟩
/-- a body of a function that is handed no memory -/
theorem fc_bodyF {S : Setup} {f : FuncId} {fn : Func} {c : Code} {ro : List (Nat × List D)} {args : List D} {d : D}
    (hf : S.P.funcs[f]? = some fn) (hb : fn.body = some c) (hname : (fn.name == "runtime.NumGoroutine") = false) (hn : args.length ≤ fn.ntmps)
    (h : ∀ B N, B.off N → SW S B (Ret S fn.results.toList d []) [.code c] ⟨fn.ntmps, enumD 0 args, [], ro, [], []⟩) : FC S f ro [] [] args d [] [] := by
  refine ⟨⟨fn, hf, hname, by rw [hb]; rfl⟩, fun w G vals hs => ?_⟩
  obtain ⟨N, hN⟩ := exists_off hs.W.lablt
  have hB : (baseOf G w [] []).off N := by
    refine ⟨fun b hb => ?_, hN⟩
    rcases hb with ⟨p, hp, _⟩ | ⟨k, hk, _⟩
    · cases hp
    · cases hk
  refine calls_of_sw hf hb hn hs (h _ N hB) fun G' L' a' w' hs' hr => ?_
  obtain ⟨d0, v, ⟨h1, h2⟩, h3, h4⟩ := resY_sound hs' hr
  refine ⟨v, h3, v, { G' with τ := fun _ => none }, rfl, rfl, rfl, fun t d' hd => ?_, ?_, hs.fixed⟩
  · simp only [look] at hd
    split at hd
    · rename_i ht
      subst ht
      obtain rfl := Option.some.inj hd
      refine ⟨v, rfl, ?_⟩
      exact (h4.le h1).mono (show Mono G' { G' with τ := fun _ => none } w' w' from ⟨fun _ _ _ h1 h2 => ⟨h1, h2⟩, fun _ _ => rfl⟩) (fun _ _ _ h => h) (fun _ _ => .inl rfl)
    · cases hd
  · exact simW_noTok (hs'.W.less h2 (ro' := []) (by simp) (tk' := []) (by simp))
end Go.Lg
