/-
  Lg, part 23: what was made by 'make' and filled is taken for a list from now on.
-/
import Derived.Test.YtenjmepbaajkjaaLgTools
namespace Go.Lg
open Go Go.RowKit

theorem freeze_sim {B : Base} {L : LS} {G : Ghost} {a : Act} {w : World} (h : Sim B L G a w) {t id n s : Nat} {cs xs : List D} {tk : Tk} (ht : look L.env t = some (.ms id n)) (hb : look L.boxes id = some cs) (hx : cs = flat xs) (hn : n = xs.length)
    (hu : ∀ x ∈ xs, x.cells.length = s) (hk : ∀ d ∈ cs, d.memOk = true) (htk : tk = .any ∨ tk = .nn) :
    ∃ G', Sim B { L with env := setA L.env t (.sl tk xs), boxes := eraseK id L.boxes } G' a w := by
  have hW := h.W
  obtain ⟨g, hg, ⟨vs, e, e1, e2, e3⟩, hl0, hown⟩ := hW.boxes id cs hb
  obtain ⟨v, hv, hr⟩ := h.env t _ ht
  have hmn : Mono G (G.grow g cs.length) w w := ⟨fun b o u h1 h2 => ⟨by
    simp only [Ghost.grow]
    split
    · rename_i hbg; subst hbg; omega
    · exact h1, h2⟩, fun _ _ => rfl⟩
  have rG : ∀ {d u}, Rel G w d u → Rel (G.grow g cs.length) w d u := fun {d u} hr => hr.mono hmn (fun _ _ _ h => h) (fun k _ => .inr ⟨rfl, fun g' e' z hk' => by
    obtain ⟨_, _, _, h5⟩ := hW.tau k g' e' z hk'
    refine ⟨?_, rfl⟩
    simp only [Ghost.grow]
    rw [if_neg (by rintro rfl; exact h5 id hg)]⟩)
  have hbox : ∀ {g' cs'}, BoxAt G w g' cs' → BoxAt (G.grow g cs.length) w g' cs' := fun ⟨vs, e, e1, e2, e3⟩ => ⟨vs, e, e1, e2, fun j d v hd hv => rG (e3 j d v hd hv)⟩
  have hcell : ∀ j, w.cell? ⟨g, j, none⟩ = vs[j]? := fun j => by simp [World.cell?, e1]
  have hlim : (G.grow g cs.length).lim g = cs.length := by simp [Ghost.grow]
  have hlim' : ∀ b, b ≠ g → (G.grow g cs.length).lim b = G.lim b := fun b hb => by simp [Ghost.grow, hb]
  refine ⟨G.grow g cs.length, h.defers, h.size, fun t' d hd => ?_, ?_, h.fixed⟩
  · simp only [look_setA] at hd
    by_cases e0 : t = t'
    · subst e0
      simp only [if_true, Option.some.injEq] at hd
      subst hd
      refine ⟨v, hv, ?_⟩
      cases hr with
      | @ms _ _ c1 g1 hb' hc' hn' =>
        have e0 : g1 = g := Option.some.inj (hb'.symm.trans hg)
        rw [e0]
        refine .sl (b := g) (o := 0) (s := s) (by omega) hc' hn' ?_ (.inr rfl) hu (hx ▸ hk) (fun j d hj => ?_) (fun j d u hj hu' => ?_)
        · rcases htk with rfl | rfl
          · trivial
          · simp [TkOk]
        · rw [← hx] at hj
          have hlt : j < cs.length := (List.getElem?_eq_some_iff.1 hj).1
          rw [Nat.zero_add, hlim, hcell]
          exact ⟨hlt, vs[j]'(by omega), by simp [show j < vs.size by omega]⟩
        · rw [← hx] at hj
          rw [Nat.zero_add, hcell] at hu'
          exact rG (e3 j d u hj hu')
    · rw [if_neg e0] at hd
      obtain ⟨u, h1, h2⟩ := h.env t' d hd
      exact ⟨u, h1, rG h2⟩
  · exact { hW with
      boxes := fun i cs' hl => by
        simp only [look_eraseK] at hl
        by_cases e0 : id = i
        · rw [if_pos e0] at hl; cases hl
        · rw [if_neg e0] at hl
          obtain ⟨g', k1, k2, k3, k4⟩ := hW.boxes i cs' hl
          refine ⟨g', k1, hbox k2, ?_, k4⟩
          rw [hlim' g' (by rintro rfl; exact e0 (hW.binj _ _ _ hg k1))]
          exact k3
      robs := fun i cs' hl => by
        obtain ⟨g', k1, k2, k3⟩ := hW.robs i cs' hl
        exact ⟨g', k1, hbox k2, k3⟩
      tau := fun k g' e' z hk' => by
        obtain ⟨h1, h2, ⟨cur, h3, h4⟩, h5⟩ := hW.tau k g' e' z hk'
        refine ⟨h1, h2, ⟨cur, h3, ?_⟩, h5⟩
        rw [hlim' g' (by rintro rfl; exact h5 id hg)]
        exact h4
      old := fun b hb1 hb2 => by
        refine ⟨(hW.old b hb1 hb2).1, ?_⟩
        rw [hlim' b]
        · exact (hW.old b hb1 hb2).2
        · rintro rfl
          rcases hown with h | h
          · omega
          · exact hb2 h
      olda := fun b hb1 => by
        refine ⟨?_, (hW.olda b hb1).2⟩
        have := (hW.olda b hb1).1
        by_cases hbg : b = g
        · subst hbg; rw [hl0] at this; omega
        · rw [hlim' b hbg]; exact this
      lablt := hW.lablt }

variable {S : Setup} {B : Base} {R : LS → Prop} {k : List VItem} {L : LS}
theorem sw_freeze (t s : Nat) (tk : Tk) {id n : Nat} {cs : List D} (xs : List D) (ht : look L.env t = some (.ms id n)) (hb : look L.boxes id = some cs) (hx : cs = flat xs) (hn : n = xs.length)
    (hu : ∀ x ∈ xs, x.cells.length = s) (hk : ∀ d ∈ cs, d.memOk = true) (htk : tk = .any ∨ tk = .nn) (hh : SW S B R k { L with env := setA L.env t (.sl tk xs), boxes := eraseK id L.boxes }) : SW S B R k L := fun G a w hs => by
  obtain ⟨G', h'⟩ := freeze_sim hs ht hb hx hn hu hk htk
  exact hh G' a w h'
/-- .. ahead of the region 'rid'. -/
theorem sw_freezeAt (rid t s : Nat) (tk : Tk) {id n : Nat} {cs : List D} (xs : List D) {ops : Array Oper} {dr : Bool} {c : Code} (ht : look L.env t = some (.ms id n)) (hb : look L.boxes id = some cs) (hx : cs = flat xs) (hn : n = xs.length)
    (hu : ∀ x ∈ xs, x.cells.length = s) (hk : ∀ d ∈ cs, d.memOk = true) (htk : tk = .any ∨ tk = .nn) (hh : SW S B R (.code (.seq (.region rid ops dr) c) :: k) { L with env := setA L.env t (.sl tk xs), boxes := eraseK id L.boxes }) : SW S B R (.code (.seq (.region rid ops dr) c) :: k) L :=
  sw_freeze t s tk xs ht hb hx hn hu hk htk hh
end Go.Lg
namespace Go.Lg
/-- A list that is being filled from the left. -/
def fillL (f : Nat → D) (z : D) (i n : Nat) : List D := (List.range n).map fun j => if j < i then f j else z
theorem fillL_length (f : Nat → D) (z : D) (i n : Nat) : (fillL f z i n).length = n := by simp [fillL]
theorem fillL_set (f : Nat → D) (z : D) (i n : Nat) : (fillL f z i n).set i (f i) = fillL f z (i + 1) n := by
  refine List.ext_getElem (by simp [fillL]) fun j h1 h2 => ?_
  simp only [fillL, List.getElem_set, List.getElem_map, List.getElem_range]
  by_cases e : i = j
  · subst e; simp
  · rw [if_neg e]
    by_cases h : j < i
    · rw [if_pos h, if_pos (by omega)]
    · rw [if_neg h, if_neg (by omega)]
theorem fillL_zero (f : Nat → D) (z : D) (n : Nat) : fillL f z 0 n = List.replicate n z := by
  refine List.ext_getElem (by simp [fillL]) fun j h1 h2 => ?_
  simp [fillL]
theorem flatten_one (z : D) (n : Nat) : (List.replicate n [z]).flatten = List.replicate n z := by
  induction n with
  | zero => rfl
  | succ n ih => simp [List.replicate_succ, ih]
theorem fillL_start (f : Nat → D) (z : D) (n : Nat) : (List.replicate n [z]).flatten = fillL f z 0 n := by rw [flatten_one, fillL_zero]
theorem fillL_done {α : Type} [Inhabited α] (g : α → D) (z : D) (xs : List α) : fillL (fun j => g (xs.getD j default)) z xs.length xs.length = xs.map g := by
  refine List.ext_getElem (by simp [fillL]) fun j h1 h2 => ?_
  simp only [fillL, List.getElem_map, List.getElem_range]
  rw [if_pos (by simpa [fillL] using h1)]
  simp [List.getD, List.getElem?_eq_getElem (show j < xs.length by simpa [fillL] using h1)]
theorem fillL_memOk {f : Nat → D} {z : D} {i n : Nat} (hf : ∀ j, (f j).memOk = true) (hz : z.memOk = true) : ∀ d ∈ fillL f z i n, d.memOk = true := by
  intro d hd
  simp only [fillL, List.mem_map] at hd
  obtain ⟨j, _, rfl⟩ := hd
  split
  · exact hf j
  · exact hz
theorem cells_one {α : Type} {g : α → D} {xs : List α} (h : ∀ x, (g x).cells.length = 1) : ∀ d ∈ xs.map g, d.cells.length = 1 := by
  intro d hd
  obtain ⟨x, _, rfl⟩ := List.mem_map.1 hd
  exact h x
theorem flat_ones {α : Type} (g : α → D) (xs : List α) (h : ∀ x, (g x).cells = [g x]) : flat (xs.map g) = xs.map g := by
  induction xs with
  | nil => rfl
  | cons x r ih => simp [flat] at ih ⊢; rw [h]; simp [ih]
end Go.Lg
