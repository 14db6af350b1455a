/-
  Lg: LgOld, LgStoreO, LgXL, LgFrzB, one behind the other.
-/
import Derived.Test.YtfokjjlbdaabaaaLgK11
/-
  Lg: a function that is handed no memory: all that it is handed may be taken as labelled, so that its own new lists are seen to lie elsewhere.
-/
namespace Go.Lg
open Go Go.RowKit
end Go.Lg
/-
  Lg: a store into an own list of numbers, of which the token stays: what is kept of the state must be seen not to read that list.
-/
namespace Go.Lg
open Go Go.RowKit
end Go.Lg
/-
  Lg: a drawn region that makes memory, parted where the driver can't go on.
-/
namespace Go.Lg
open Go Go.RowKit
theorem lexX_app {S : Setup} {ops : Array Oper} {bx : Nat → Option (List D)} {n : Nat} {Q : EnvX → Prop} {l2 : List Oper} : ∀ (l1 : List Oper) (E : EnvX), lexX S ops bx n (lexX S ops bx n Q l2) l1 E → lexX S ops bx n Q (l1 ++ l2) E
  | [], _, h => h
  | _ :: l1, _, ⟨p, h1, h2⟩ => ⟨p, h1, lexX_app l1 _ h2⟩
theorem lexX_mono {S : Setup} {ops : Array Oper} {bx : Nat → Option (List D)} {n : Nat} {Q Q' : EnvX → Prop} (hQ : ∀ E, Q E → Q' E) : ∀ (l : List Oper) (E : EnvX), lexX S ops bx n Q l E → lexX S ops bx n Q' l E
  | [], E, h => hQ E h
  | _ :: l, _, ⟨p, h1, h2⟩ => ⟨p, h1, lexX_mono hQ l _ h2⟩
/-- what is left of a drawn region is walked by the driver -/
theorem LexX.go {S : Setup} {ops : Array Oper} {L0 : LS} {N : List (Nat × Fact) → LS → Prop} {F : List (Nat × Fact)} {l : List Oper} {L : LS} (h : ∀ Kq : List (Nat × Fact) → List Oper → LS → Prop, XOk S ops N Kq → runQ S ops (Kq F) l L) : LexX S ops L0 N F l L := by
  have hq : ∀ F l' L', runQ S ops (LexX S ops L0 N F) l' L' → LexX S ops L0 N F l' L' := fun F =>
    runQ_soundX (K' := LexX S ops L0 N) (fun _ _ _ h => h)
  refine hq _ _ _ (h (LexX S ops L0 N) ?_)
  exact {
    nil := fun h => LexX.nil h
    split := fun t _ ht h1 h0 => LexX.split t ht (fun e => hq _ _ _ (h1 e)) (fun e => hq _ _ _ (h0 e))
    skip := fun hg hd h => LexX.skip rfl hg hd (hq _ _ _ h)
    store := fun hF0 hx hi hside h => LexX.store hF0 hx hi hside (hq _ _ _ h)
    call := fun hg _ _ _ _ _ hf hds fc hside h => LexX.call hg hf hds fc hside (hq _ _ _ h)
    own := by
      intro k F l' L' t f args tys ty pos aft g hg fid cap ds xs ro e z hf hds fc hside h
      exact LexX.own k hg hf hds fc hside (hq _ _ _ h)
    alloc := fun hg hi hside h => LexX.alloc hg hi hside (hq _ _ _ h) }
/-- .. up to the q-th operation. -/
theorem LexX.part (q : Nat) {S : Setup} {ops : Array Oper} {L0 : LS} {N : List (Nat × Fact) → LS → Prop} {l : List Oper} {L : LS}
    (h : ∀ Kq : List (Nat × Fact) → List Oper → LS → Prop, XOk S ops (fun F L' => (F.all fun p => apartF p.1 (l.drop q)) = true ∧ LexX S ops L0 N F (l.drop q) L') Kq → runQ S ops (Kq []) (l.take q) L) : LexX S ops L0 N [] l L := by
  have h1 := LexX.go (L0 := L0) h
  intro hL hF
  have h2 := h1 hL (fun t f hf => by simp [look] at hf)
  have h3 := lexX_app (l2 := l.drop q) (Q := fun E => ∃ F' L', E = pairX L' F' ∧ sameX L' L0 ∧ freeF F' [] L' ∧ N F' L') _ _ (lexX_mono (fun E ⟨F', L', e, hs, hf, ha, hN⟩ => by
    subst e
    refine hN hs fun t f ht => ⟨(hf t f ht).1, fun o ho => ?_⟩
    have := List.all_eq_true.1 (List.all_eq_true.1 ha _ (mem_of_look ht)) o ho
    simpa using this) _ _ h2)
  rwa [List.take_append_drop] at h3
end Go.Lg
/-
  Lg: what was made by 'make', filled, and lies in a cell of a variable in memory, is taken for a list from now on.
-/
namespace Go.Lg
open Go Go.RowKit
theorem freezeBox_sim {B : Base} {L : LS} {G : Ghost} {a : Act} {w : World} (h : Sim B L G a w) {i0 j id n s : Nat} {cs0 cs xs : List D} {tk : Tk} (h0 : look L.boxes i0 = some cs0) (hj : cs0[j]? = some (.ms id n)) (hne : i0 ≠ id) (hb : look L.boxes id = some cs) (hx : cs = flat xs) (hn : n = xs.length)
    (hu : ∀ x ∈ xs, x.cells.length = s) (hk : ∀ d ∈ cs, d.memOk = true) (htk : tk = .any ∨ tk = .nn) :
    ∃ G', Sim B { L with boxes := setA (eraseK id L.boxes) i0 (cs0.set j (.sl tk xs)) } G' a w := by
  have hW := h.W
  obtain ⟨g, hg, ⟨vs, e, e1, e2, e3⟩, hl0, hown⟩ := hW.boxes id cs hb
  have hmn : Mono G (G.grow g cs.length) w w := ⟨fun b o u h1 h2 => ⟨by
    simp only [Ghost.grow]
    split
    · rename_i hbg; subst hbg; omega
    · exact h1, h2⟩, fun _ _ => rfl⟩
  have rG : ∀ {d u}, Rel G w d u → Rel (G.grow g cs.length) w d u := fun {d u} hr => hr.mono hmn (fun _ _ _ h => h) (fun k _ => .inr ⟨rfl, fun g' e' z hk' => by
    obtain ⟨_, _, _, h5⟩ := hW.tau k g' e' z hk'
    refine ⟨?_, rfl⟩
    simp only [Ghost.grow]
    rw [if_neg (by rintro rfl; exact h5 id hg)]⟩)
  have hbox : ∀ {g' cs'}, BoxAt G w g' cs' → BoxAt (G.grow g cs.length) w g' cs' := fun ⟨vs, e, e1, e2, e3⟩ => ⟨vs, e, e1, e2, fun j d v hd hv => rG (e3 j d v hd hv)⟩
  have hcell : ∀ j, w.cell? ⟨g, j, none⟩ = vs[j]? := fun j => by simp [World.cell?, e1]
  have hlim : (G.grow g cs.length).lim g = cs.length := by simp [Ghost.grow]
  have hlim' : ∀ b, b ≠ g → (G.grow g cs.length).lim b = G.lim b := fun b hb => by simp [Ghost.grow, hb]
  have conv : ∀ {u}, Rel G w (.ms id n) u → Rel (G.grow g cs.length) w (.sl tk xs) u := fun {u} hr => by
    cases hr with
    | @ms _ _ c1 g1 hb' hc' hn' =>
      have e0 : g1 = g := Option.some.inj (hb'.symm.trans hg)
      rw [e0]
      refine .sl (b := g) (o := 0) (s := s) (by omega) hc' hn' ?_ (.inr rfl) hu (hx ▸ hk) (fun j d hj => ?_) (fun j d u hj hu' => ?_)
      · rcases htk with rfl | rfl
        · trivial
        · simp [TkOk]
      · rw [← hx] at hj
        have hlt : j < cs.length := (List.getElem?_eq_some_iff.1 hj).1
        rw [Nat.zero_add, hlim, hcell]
        exact ⟨hlt, vs[j]'(by omega), by simp [show j < vs.size by omega]⟩
      · rw [← hx] at hj
        rw [Nat.zero_add, hcell] at hu'
        exact rG (e3 j d u hj hu')
  refine ⟨G.grow g cs.length, h.defers, h.size, fun t' d hd => ?_, ?_, h.fixed⟩
  · obtain ⟨u, h1, h2⟩ := h.env t' d hd
    exact ⟨u, h1, rG h2⟩
  · exact { hW with
      boxes := fun i cs' hl => by
        simp only [look_setA] at hl
        by_cases e9 : i0 = i
        · subst e9
          rw [if_pos rfl] at hl
          obtain rfl := Option.some.inj hl
          obtain ⟨g', k1, ⟨vs', ee, b1, b2, b3⟩, k3, k4⟩ := hW.boxes i0 cs0 h0
          refine ⟨g', k1, ⟨vs', ee, b1, by simpa using b2, fun j' d v hd hv => ?_⟩, ?_, k4⟩
          · rw [List.getElem?_set] at hd
            by_cases ej : j = j'
            · subst ej
              have hlt : j < cs0.length := (List.getElem?_eq_some_iff.1 hj).1
              rw [if_pos rfl, if_pos hlt] at hd
              obtain rfl := Option.some.inj hd
              exact conv (b3 j _ v hj hv)
            · rw [if_neg ej] at hd
              exact rG (b3 j' d v hd hv)
          · rw [hlim' g' (by rintro rfl; exact hne (hW.binj _ _ _ k1 hg))]
            exact k3
        · rw [if_neg e9] at hl
          simp only [look_eraseK] at hl
          by_cases e0 : id = i
          · rw [if_pos e0] at hl; cases hl
          · rw [if_neg e0] at hl
            obtain ⟨g', k1, k2, k3, k4⟩ := hW.boxes i cs' hl
            refine ⟨g', k1, hbox k2, ?_, k4⟩
            rw [hlim' g' (by rintro rfl; exact e0 (hW.binj _ _ _ hg k1))]
            exact k3
      robs := fun i cs' hl => by
        obtain ⟨g', k1, k2, k3⟩ := hW.robs i cs' hl
        exact ⟨g', k1, hbox k2, k3⟩
      tau := fun k g' e' z hk' => by
        obtain ⟨h1, h2, ⟨cur, h3, h4⟩, h5⟩ := hW.tau k g' e' z hk'
        refine ⟨h1, h2, ⟨cur, h3, ?_⟩, h5⟩
        rw [hlim' g' (by rintro rfl; exact h5 id hg)]
        exact h4
      old := fun b hb1 hb2 => by
        refine ⟨(hW.old b hb1 hb2).1, ?_⟩
        rw [hlim' b]
        · exact (hW.old b hb1 hb2).2
        · rintro rfl
          rcases hown with h | h
          · omega
          · exact hb2 h
      olda := fun b hb1 => by
        refine ⟨?_, (hW.olda b hb1).2⟩
        have := (hW.olda b hb1).1
        by_cases hbg : b = g
        · subst hbg; rw [hl0] at this; omega
        · rw [hlim' b hbg]; exact this
      lablt := hW.lablt }
theorem sw_freezeBox {S : Setup} {B : Base} {R : LS → Prop} {k : List VItem} {L : LS} (i0 j s : Nat) (tk : Tk) {id n : Nat} {cs0 cs : List D} (xs : List D) (h0 : look L.boxes i0 = some cs0) (hj : cs0[j]? = some (.ms id n)) (hb : look L.boxes id = some cs) (hne : i0 ≠ id) (hx : cs = flat xs) (hn : n = xs.length)
    (hu : ∀ x ∈ xs, x.cells.length = s) (hk : ∀ d ∈ cs, d.memOk = true) (htk : tk = .any ∨ tk = .nn) (hh : SW S B R k { L with boxes := setA (eraseK id L.boxes) i0 (cs0.set j (.sl tk xs)) }) : SW S B R k L := fun _ a w hs => by
  obtain ⟨G', h'⟩ := freezeBox_sim hs h0 hj hne hb hx hn hu hk htk
  exact hh G' a w h'
end Go.Lg
