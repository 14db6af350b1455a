/-
  Lg, part 33: a labelled tree's int cells are places apart from each other; what bears other labels stands when they are written.
-/
import Derived.Test.YtceejlnnlkmeiaaLgMk
namespace Go.Lg
open Go Go.RowKit

def Tk.still : Tk → Bool
  | .own .. => false
  | _ => true
def D.plain : D → Bool
  | .int .. | .bool _ | .str _ => true
  | _ => false
/-! 'd' reads as a list of this shape, whose every block bears a label of its own (beginning with 'p'); 'n' marked ints. -/
mutual
def LT : Sh → List Nat → D → Nat → Prop
  | .slc fs, p, d, n => ∃ (tk : Tk) (xs : List D) (ns : List Nat), d = .sl tk xs ∧ tk.still = true ∧ (xs = [] ∨ tk = .lab p) ∧ ns.length = xs.length ∧ n = ns.sum ∧ ∀ (i : Nat) x m, xs[i]? = some x → ns[i]? = some m → LF fs (p ++ [i]) 0 x.cells m
def LF : Fs → List Nat → Nat → List D → Nat → Prop
  | .nil, _, _, cs, n => n = 0 ∧ cs = []
  | .cell r, p, j, cs, n => ∃ m k t, cs = .int .i64 m :: t ∧ n = k + 1 ∧ LF r p (j + 1) t k
  | .skip r, p, j, cs, n => ∃ c t, cs = c :: t ∧ c.plain = true ∧ LF r p (j + 1) t n
  | .sub s r, p, j, cs, n => ∃ d k1 k2 t, cs = d :: t ∧ n = k1 + k2 ∧ LT s (p ++ [j]) d k1 ∧ LF r p (j + 1) t k2
end
theorem LF.len : ∀ (fs : Fs) (p : List Nat) (j : Nat) (cs : List D) (n : Nat), LF fs p j cs n → cs.length = fs.len
  | .nil, _, _, _, _, h => by unfold LF at h; rw [h.2]; rfl
  | .cell r, p, j, cs, n, h => by
    unfold LF at h
    obtain ⟨m, k, t, rfl, _, h⟩ := h
    simp [Fs.len, LF.len r p _ t k h]
  | .skip r, p, j, cs, n, h => by
    unfold LF at h
    obtain ⟨c, t, rfl, _, h⟩ := h
    simp [Fs.len, LF.len r p _ t n h]
  | .sub s r, p, j, cs, n, h => by
    unfold LF at h
    obtain ⟨d, k1, k2, t, rfl, _, _, h⟩ := h
    simp [Fs.len, LF.len r p _ t k2 h]

theorem plain_rel {G G' : Ghost} {w w' : World} {d : D} {v : Value} (h : d.plain = true) (hr : Rel G w d v) : Rel G' w' d v := by
  cases d <;> simp [D.plain] at h <;> cases hr
  · exact .int
  · exact .bool
  · exact .str

/-- The j-th cell of element i. -/
theorem flat_elem {s : Nat} {xs : List D} (h : ∀ x ∈ xs, x.cells.length = s) {q : Nat} {d : D} (hq : (flat xs)[q]? = some d) : ∃ i j x, xs[i]? = some x ∧ x.cells[j]? = some d ∧ q = i * s + j ∧ j < s := by
  induction xs generalizing q with
  | nil => simp [flat] at hq
  | cons x xs ih =>
    rw [flat_cons] at hq
    have hx := h x List.mem_cons_self
    by_cases hl : q < x.cells.length
    · rw [List.getElem?_append_left hl] at hq
      exact ⟨0, q, x, rfl, hq, by omega, by omega⟩
    · rw [List.getElem?_append_right (by omega)] at hq
      obtain ⟨i, j, y, h1, h2, h3, h4⟩ := ih (fun y hy => h y (List.mem_cons_of_mem _ hy)) hq
      refine ⟨i + 1, j, y, by simpa using h1, h2, ?_, h4⟩
      rw [Nat.add_mul]; omega

mutual
theorem LT.keeps {G : Ghost} {w w' : World} : ∀ (s : Sh) (q : List Nat) (d : D) (n : Nat), LT s q d n → q ≠ [] → (∀ b o v, q <+: G.lab b → cellAt w b o = some v → cellAt w' b o = some v) → ∀ v, Rel G w d v → Rel G w' d v
  | .slc fs, q, d, n, h, hq0, hf, v, hr => by
    unfold LT at h
    obtain ⟨tk, xs, ns, rfl, ht, hx, hn, _, hel⟩ := h
    cases hr with
    | @sl _ _ A m c b o s hlen hc hm htk hA hu hk hst hrr =>
    have htk' : TkOk G w' tk xs A m c := by
      cases tk <;> first | exact htk | (simp [Tk.still] at ht)
    by_cases hxs : xs = []
    · subst hxs
      exact .sl (b := b) (o := o) (s := s) hlen hc hm htk' (.inl rfl) hu hk (by simp [flat]) (by simp [flat])
    · obtain rfl : tk = .lab q := hx.resolve_left hxs
      obtain ⟨g, o', e1, e2, _⟩ := htk.resolve_left hxs
      have hA' := hA.resolve_left hxs
      rw [e1] at hA'
      obtain ⟨rfl, rfl⟩ : g = b ∧ o' = o := by simpa using hA'
      refine .sl (b := g) (o := o') (s := s) hlen hc hm htk' hA hu hk (fun j d hj => ?_) (fun j d u hj hu' => ?_)
      · obtain ⟨h1, u, h2⟩ := hst j d hj
        exact ⟨h1, u, hf g _ u (e2 ▸ List.prefix_refl _) h2⟩
      · obtain ⟨h1, u', h2⟩ := hst j d hj
        have h3 := hf g _ u' (e2 ▸ List.prefix_refl _) h2
        rw [show cellAt w' g (o' + j) = some u from hu'] at h3
        obtain rfl := Option.some.inj h3
        obtain ⟨i, j', x, k1, k2, k3, k4⟩ := flat_elem hu hj
        have hi : i < ns.length := by rw [hn]; exact (List.getElem?_eq_some_iff.1 k1).1
        exact LF.keeps fs (q ++ [i]) 0 x.cells _ (hel i x _ k1 (List.getElem?_eq_getElem hi)) (by simp) (fun b o v hb hv => hf b o v ((List.prefix_append q [i]).trans hb) hv) j' d k2 u (hrr j d u hj h2)
theorem LF.keeps {G : Ghost} {w w' : World} : ∀ (fs : Fs) (q : List Nat) (j : Nat) (cs : List D) (n : Nat), LF fs q j cs n → q ≠ [] → (∀ b o v, q <+: G.lab b → cellAt w b o = some v → cellAt w' b o = some v) → ∀ (i : Nat) (d : D), cs[i]? = some d → ∀ v, Rel G w d v → Rel G w' d v
  | .nil, _, _, cs, _, h, _, _, i, d, hd, v, hr => by
    unfold LF at h
    rw [h.2] at hd
    simp at hd
  | .cell r, q, j, cs, n, h, hq, hf, i, d, hd, v, hr => by
    unfold LF at h
    obtain ⟨m, k, t, rfl, _, h⟩ := h
    cases i with
    | zero =>
      obtain rfl : D.int .i64 m = d := by simpa using hd
      exact plain_rel rfl hr
    | succ i => exact LF.keeps r q _ t k h hq hf i d (by simpa using hd) v hr
  | .skip r, q, j, cs, n, h, hq, hf, i, d, hd, v, hr => by
    unfold LF at h
    obtain ⟨c, t, rfl, hp, h⟩ := h
    cases i with
    | zero =>
      obtain rfl : c = d := by simpa using hd
      exact plain_rel hp hr
    | succ i => exact LF.keeps r q _ t n h hq hf i d (by simpa using hd) v hr
  | .sub s r, q, j, cs, n, h, hq, hf, i, d, hd, v, hr => by
    unfold LF at h
    obtain ⟨d0, k1, k2, t, rfl, _, h0, h⟩ := h
    cases i with
    | zero =>
      obtain rfl : d0 = d := by simpa using hd
      exact LT.keeps s (q ++ [j]) d0 k1 h0 (by simp) (fun b o v hb hv => hf b o v ((List.prefix_append q [j]).trans hb) hv) v hr
    | succ i => exact LF.keeps r q _ t k2 h hq hf i d (by simpa using hd) v hr
end

theorem pre_eq {l1 l2 l : List Nat} (h1 : l1 <+: l) (h2 : l2 <+: l) (h : l1.length = l2.length) : l1 = l2 := (List.prefix_of_prefix_length_le h1 h2 (by omega)).eq_of_length h

mutual
theorem LT.lv {G : Ghost} {w : World} : ∀ (s : Sh) (p : List Nat) (d : D) (n : Nat), LT s p d n → p ≠ [] → ∀ v, Rel G w d v → ∃ as, Lv G.lim w s v as ∧ as.length = n ∧ as.Nodup ∧ ∀ q ∈ as, p <+: G.lab q.1
  | .slc fs, p, d, n, h, hp0, v, hr => by
    unfold LT at h
    obtain ⟨tk, xs, ns, rfl, ht, hx, hn, hsum, hel⟩ := h
    cases hr with
    | @sl _ _ A m c b o s hlen hc hm htk hA hu hk hst hrr =>
    by_cases hxs : xs = []
    · subst hxs
      have h0 : m = 0 := by simpa using hlen
      have hns : ns = [] := List.length_eq_zero_iff.1 (by simpa using hn)
      refine ⟨[], ?_, by rw [hsum, hns]; rfl, by simp, by simp⟩
      unfold Lv
      exact ⟨A, m, c, b, o, rfl, by omega, .inl h0, [], by simp [h0], rfl, by simp⟩
    · obtain rfl : tk = .lab p := hx.resolve_left hxs
      obtain ⟨g, o', e1, e2, _⟩ := htk.resolve_left hxs
      have hA' := hA.resolve_left hxs
      rw [e1] at hA'
      obtain ⟨rfl, rfl⟩ : g = b ∧ o' = o := by simpa using hA'
      have hz : s = fs.len := by
        cases xs with
        | nil => exact absurd rfl hxs
        | cons x r =>
          have h1 := hu x List.mem_cons_self
          cases ns with
          | nil => simp at hn
          | cons m0 ns => rw [← h1]; exact LF.len fs _ 0 _ _ (hel 0 x m0 rfl rfl)
      subst hz
      have hone : ∀ i : Nat, ∃ l : List (Nat × Nat), i < xs.length → LvF G.lim w fs g (o' + i * fs.len) l ∧ ns[i]? = some l.length ∧ l.Nodup ∧ ∀ q ∈ l, (q.1 = g ∧ o' + i * fs.len ≤ q.2 ∧ q.2 < o' + i * fs.len + fs.len) ∨ ∃ j, (p ++ [i] ++ [j]) <+: G.lab q.1 := fun i => by
        by_cases hi : i < xs.length
        · obtain ⟨l, h1, h2, h3, h4⟩ := LF.lv (G := G) (w := w) fs (p ++ [i]) 0 xs[i].cells ns[i] (hel i _ _ (List.getElem?_eq_getElem hi) (List.getElem?_eq_getElem (by omega))) p i rfl g (o' + i * fs.len) e2 (fun j d hj => by
            have := flat_at hu hi hj
            obtain ⟨k1, u, k2⟩ := hst _ d this
            rw [← Nat.add_assoc] at k1 k2
            exact ⟨k1, u, k2, hrr _ d u this (by rw [← Nat.add_assoc]; exact k2)⟩)
          refine ⟨l, fun _ => ⟨h1, by rw [h2]; exact List.getElem?_eq_getElem (by omega), h3, fun q hq => ?_⟩⟩
          rcases h4 q hq with h | ⟨j, _, h⟩
          · exact .inl h
          · exact .inr ⟨j, h⟩
        · exact ⟨[], fun h => absurd h hi⟩
      obtain ⟨f, hf⟩ := Classical.axiomOfChoice hone
      have hget : ∀ i l, ((List.range xs.length).map f)[i]? = some l → i < xs.length ∧ l = f i := fun i l hil => by
        rw [List.getElem?_map] at hil
        by_cases hi : i < xs.length
        · rw [List.getElem?_range hi] at hil
          exact ⟨hi, by simpa using hil.symm⟩
        · rw [List.getElem?_eq_none (by simpa using hi)] at hil
          cases hil
      refine ⟨((List.range xs.length).map f).flatten, ?_, ?_, ?_, ?_⟩
      · unfold Lv
        exact ⟨A, m, c, g, o', rfl, by omega, .inr e1, (List.range xs.length).map f, by simp [hlen], rfl, fun i l hil => by
          obtain ⟨h1, rfl⟩ := hget i l hil
          exact (hf i h1).1⟩
      · rw [List.length_flatten, hsum]
        congr 1
        refine List.ext_getElem? fun i => ?_
        rw [List.getElem?_map, List.getElem?_map]
        by_cases hi : i < xs.length
        · rw [List.getElem?_range hi, (hf i hi).2.1]
          rfl
        · rw [List.getElem?_eq_none (l := List.range _) (by simpa using hi), List.getElem?_eq_none (l := ns) (by omega)]
          rfl
      · rw [List.Nodup, List.pairwise_flatten]
        refine ⟨fun l hl => ?_, ?_⟩
        · obtain ⟨i, hi, rfl⟩ := List.mem_map.1 hl
          exact (hf i (List.mem_range.1 hi)).2.2.1
        · rw [List.pairwise_map]
          refine List.Pairwise.imp_of_mem ?_ List.pairwise_lt_range
          intro i j hi hj hij x hx y hy hxy
          subst hxy
          have hi := List.mem_range.1 hi
          have hj := List.mem_range.1 hj
          rcases (hf i hi).2.2.2 x hx with ⟨a1, a2, a3⟩ | ⟨a, ha⟩
          · rcases (hf j hj).2.2.2 x hy with ⟨c1, c2, c3⟩ | ⟨c, hc⟩
            · have : (i + 1) * fs.len ≤ j * fs.len := Nat.mul_le_mul_right _ hij
              rw [Nat.add_mul] at this
              omega
            · rw [a1, e2] at hc
              have := hc.length_le
              simp at this
              try omega
          · rcases (hf j hj).2.2.2 x hy with ⟨c1, c2, c3⟩ | ⟨c, hc⟩
            · rw [c1, e2] at ha
              have := ha.length_le
              simp at this
              try omega
            · have h1 := (List.prefix_append (p ++ [i]) [a]).trans ha
              have h2 := (List.prefix_append (p ++ [j]) [c]).trans hc
              have := pre_eq h1 h2 (by simp)
              simp at this
              omega
      · intro q hq
        obtain ⟨l, hl, hq⟩ := List.mem_flatten.1 hq
        obtain ⟨i, hi, rfl⟩ := List.mem_map.1 hl
        rcases (hf i (List.mem_range.1 hi)).2.2.2 q hq with ⟨a1, _⟩ | ⟨a, ha⟩
        · rw [a1, e2]; exact List.prefix_refl _
        · rw [List.append_assoc] at ha
          exact (List.prefix_append p _).trans ha
theorem LF.lv {G : Ghost} {w : World} : ∀ (fs : Fs) (p : List Nat) (j : Nat) (cs : List D) (n : Nat), LF fs p j cs n → ∀ (p0 : List Nat) (i0 : Nat), p = p0 ++ [i0] → ∀ (b o : Nat), G.lab b = p0 → (∀ (i : Nat) d, cs[i]? = some d → o + i < G.lim b ∧ ∃ v, cellAt w b (o + i) = some v ∧ Rel G w d v) →
    ∃ as, LvF G.lim w fs b o as ∧ as.length = n ∧ as.Nodup ∧ ∀ q ∈ as, (q.1 = b ∧ o ≤ q.2 ∧ q.2 < o + fs.len) ∨ ∃ j', j ≤ j' ∧ (p ++ [j']) <+: G.lab q.1
  | .nil, p, j, cs, n, h, p0, i0, hp, b, o, hb, hc => by
    unfold LF at h
    exact ⟨[], by unfold LvF; rfl, by simp [h.1], by simp, by simp⟩
  | .cell r, p, j, cs, n, h, p0, i0, hp, b, o, hb, hc => by
    unfold LF at h
    obtain ⟨m, k, t, rfl, rfl, h⟩ := h
    obtain ⟨l, h1, h2, h3, h4⟩ := LF.lv r p (j + 1) t k h p0 i0 hp b (o + 1) hb (fun i d hd => by
      have := hc (i + 1) d (by simpa using hd)
      rw [show o + 1 + i = o + (i + 1) by omega]; exact this)
    obtain ⟨c1, v, c2, c3⟩ := hc 0 _ rfl
    refine ⟨(b, o) :: l, ?_, by simp [h2], List.nodup_cons.2 ⟨fun hm => ?_, h3⟩, fun q hq => ?_⟩
    · unfold LvF
      refine ⟨l, rfl, c1, ⟨m, ?_⟩, h1⟩
      rw [show cellAt w b o = some v from c2]
      cases c3
      rfl
    · rcases h4 _ hm with ⟨_, q2, _⟩ | ⟨j', _, hj⟩
      · simp at q2; omega
      · simp only [hb, hp] at hj
        have := hj.length_le
        simp at this
        try omega
        try omega
    · rcases List.mem_cons.1 hq with rfl | hq
      · exact .inl ⟨rfl, Nat.le_refl _, by simp [Fs.len]⟩
      · rcases h4 q hq with ⟨q1, q2, q3⟩ | ⟨j', q1, q2⟩
        · exact .inl ⟨q1, by omega, by simp only [Fs.len]; omega⟩
        · exact .inr ⟨j', by omega, q2⟩
  | .skip r, p, j, cs, n, h, p0, i0, hp, b, o, hb, hc => by
    unfold LF at h
    obtain ⟨c, t, rfl, _, h⟩ := h
    obtain ⟨l, h1, h2, h3, h4⟩ := LF.lv r p (j + 1) t n h p0 i0 hp b (o + 1) hb (fun i d hd => by
      have := hc (i + 1) d (by simpa using hd)
      rw [show o + 1 + i = o + (i + 1) by omega]; exact this)
    refine ⟨l, by unfold LvF; exact h1, h2, h3, fun q hq => ?_⟩
    rcases h4 q hq with ⟨q1, q2, q3⟩ | ⟨j', q1, q2⟩
    · exact .inl ⟨q1, by omega, by simp only [Fs.len]; omega⟩
    · exact .inr ⟨j', by omega, q2⟩
  | .sub s r, p, j, cs, n, h, p0, i0, hp, b, o, hb, hc => by
    unfold LF at h
    obtain ⟨d, k1, k2, t, rfl, rfl, h0, h⟩ := h
    obtain ⟨l2, h1, h2, h3, h4⟩ := LF.lv r p (j + 1) t k2 h p0 i0 hp b (o + 1) hb (fun i d hd => by
      have := hc (i + 1) d (by simpa using hd)
      rw [show o + 1 + i = o + (i + 1) by omega]; exact this)
    obtain ⟨c1, v, c2, c3⟩ := hc 0 d rfl
    obtain ⟨l1, m1, m2, m3, m4⟩ := LT.lv s (p ++ [j]) d k1 h0 (by simp) v c3
    refine ⟨l1 ++ l2, ?_, by simp [h2, m2], List.nodup_append.2 ⟨m3, h3, fun x hx y hy hxy => ?_⟩, fun q hq => ?_⟩
    · unfold LvF
      exact ⟨v, l1, l2, rfl, c1, c2, m1, h1⟩
    · subst hxy
      have a1 := m4 x hx
      rcases h4 x hy with ⟨q1, _⟩ | ⟨j', q1, q2⟩
      · rw [q1, hb, hp] at a1
        have := a1.length_le
        simp at this
        try omega
      · have := pre_eq a1 q2 (by simp)
        simp at this
        omega
    · rcases List.mem_append.1 hq with hq | hq
      · exact .inr ⟨j, Nat.le_refl _, m4 q hq⟩
      · rcases h4 q hq with ⟨q1, q2, q3⟩ | ⟨j', q1, q2⟩
        · exact .inl ⟨q1, by omega, by simp only [Fs.len]; omega⟩
        · exact .inr ⟨j', by omega, q2⟩
end
end Go.Lg
