/-
  Lg, part 8: variables that lie in memory ('boxes'): new ones, and stores into them.
-/
import Derived.Test.YtenjmepbaajkjaaLgOpW
namespace Go.Lg
open Go Go.RowKit

def eraseK {α : Type} (k : Nat) : List (Nat × α) → List (Nat × α)
  | [] => []
  | (k', x) :: r => if k' = k then eraseK k r else (k', x) :: eraseK k r
theorem look_eraseK {α : Type} (k : Nat) (l : List (Nat × α)) (t : Nat) : look (eraseK k l) t = if k = t then none else look l t := by
  induction l with
  | nil => simp [eraseK, look]
  | cons p r ih =>
    obtain ⟨k', x⟩ := p
    by_cases h : k' = k
    · subst h
      simp only [eraseK, if_true, ih, look]
      by_cases h2 : k' = t <;> simp [h2]
    · simp only [eraseK, if_neg h, look, ih]
      by_cases h2 : k' = t
      · subst h2
        have : ¬ k = k' := fun e => h e.symm
        simp [this]
      · simp [h2]
/-- What passes the test, each key once. -/
def keepA {α : Type} (f : α → Bool) : List (Nat × α) → List (Nat × α)
  | [] => []
  | (k, x) :: r => if f x = true then (k, x) :: keepA f r else eraseK k (keepA f r)
theorem look_keepA {α : Type} (f : α → Bool) (l : List (Nat × α)) (t : Nat) (x : α) (h : look (keepA f l) t = some x) : look l t = some x ∧ f x = true := by
  induction l with
  | nil => cases h
  | cons p r ih =>
    obtain ⟨k, y⟩ := p
    by_cases hf : f y = true
    · simp only [keepA, hf, if_true, look] at h ⊢
      by_cases hk : k = t
      · simp only [hk, if_true, Option.some.injEq] at h ⊢
        subst h
        exact ⟨rfl, hf⟩
      · rw [if_neg hk] at h ⊢
        exact ih h
    · simp only [keepA] at h
      rw [if_neg hf, look_eraseK] at h
      by_cases hk : k = t
      · rw [if_pos hk] at h; cases h
      · rw [if_neg hk] at h
        simp only [look]
        rw [if_neg hk]
        exact ih h

def noId (id : Nat) (d : D) : Bool := !d.ids.contains id
def noIdL (id : Nat) (cs : List D) : Bool := !(D.idsL cs).contains id

/-- A state in which nothing points to the box 'id'. -/
def LS.forget (L : LS) (id : Nat) : LS :=
  { L with env := keepA (noId id) L.env, boxes := eraseK id (keepA (noIdL id) L.boxes), ro := eraseK id (keepA (noIdL id) L.ro) }
def LS.newBox (L : LS) (t id : Nat) (cs : List D) (dd : D) : LS :=
  { L.forget id with env := setA (L.forget id).env t dd, boxes := setA (L.forget id).boxes id cs }

theorem noId_spec {id : Nat} {d : D} (h : noId id d = true) : id ∉ d.ids := by
  simpa [noId] using h
theorem noIdL_spec {id : Nat} {cs : List D} (h : noIdL id cs = true) : id ∉ D.idsL cs := by
  simpa [noIdL] using h

def Ghost.addBox (G : Ghost) (g id : Nat) : Ghost := { G.grow g 0 with β := fun i => if i = id then some g else G.β i }

theorem newBox_simC {B : Base} {L : LS} {G : Ghost} {a : Act} {w : World} (h : Sim B L G a w) {t id : Nat} {cs : List D} {arr : Array Value} (e : TypeId) (ht : t < L.n) (hfix : id ∉ L.fix) (hcs : id ∉ D.idsL cs) (hr : cs.length ≤ arr.size ∧ ∀ (j : Nat) d v, cs[j]? = some d → arr[j]? = some v → Rel G w d v)
    {dd : D} {vv : Value} (hd0 : Rel (G.addBox w.heap.size id) (w.alloc (.cells arr e)) dd vv) :
    Sim B (L.newBox t id cs dd) (G.addBox w.heap.size id) (a.put (some t) vv) (w.alloc (.cells arr e)) := by
  have hW := h.W
  have hmn : Mono G (G.addBox w.heap.size id) w (w.alloc (.cells arr e)) := by
    have := alloc_mono hW (.cells arr e) 0
    exact ⟨this.cell, this.lab⟩
  have hold : ∀ b, b < w.heap.size → (w.alloc (.cells arr e)).heap[b]? = w.heap[b]? := fun b hb => Below.heap_alloc w _ b hb
  have hlim : ∀ b, b < w.heap.size → (G.addBox w.heap.size id).lim b = G.lim b := fun b hb => by simp only [Ghost.addBox, Ghost.grow]; rw [if_neg (by omega)]
  have hβ : ∀ i g, i ≠ id → G.β i = some g → (G.addBox w.heap.size id).β i = some g := fun i g hne hg => by simp only [Ghost.addBox]; rw [if_neg hne]; exact hg
  have rG : ∀ {d v}, id ∉ d.ids → Rel G w d v → Rel (G.addBox w.heap.size id) (w.alloc (.cells arr e)) d v := fun {d v} hid hr =>
    hr.mono hmn (fun i hi g hg => hβ i g (fun e => hid (e ▸ hi)) hg) (fun k _ => .inr ⟨rfl, fun g e' z hk => by
      obtain ⟨_, _, ⟨cur, hc, _⟩, _⟩ := hW.tau k g e' z hk
      have hlt := heap_lt hc
      exact ⟨hlim g hlt, shape_of_heap (hold g hlt)⟩⟩)
  have hbox : ∀ {g cs}, id ∉ D.idsL cs → BoxAt G w g cs → BoxAt (G.addBox w.heap.size id) (w.alloc (.cells arr e)) g cs := fun {g cs} hid ⟨vs, e', e1, e2, e3⟩ =>
    ⟨vs, e', by rw [hold _ (heap_lt e1)]; exact e1, e2, fun j d v hd hv => rG (fun hi => hid (mem_idsL (List.mem_of_getElem? hd) hi)) (e3 j d v hd hv)⟩
  refine ⟨h.defers, by simpa [Act.put, LS.newBox, LS.forget] using h.size, fun t' d hd => ?_, ?_, h.fixed⟩
  · simp only [LS.newBox, look_setA] at hd
    by_cases e0 : t = t'
    · subst e0
      simp only [if_true, Option.some.injEq] at hd
      subst hd
      exact ⟨_, by simp [Act.put, h.size, ht], hd0⟩
    · rw [if_neg e0] at hd
      simp only [LS.forget] at hd
      obtain ⟨h1, h2⟩ := look_keepA _ _ _ _ hd
      obtain ⟨v, h3, h4⟩ := h.env t' d h1
      exact ⟨v, by simp only [Act.put]; rw [Array.getElem?_setIfInBounds_ne e0]; exact h3, rG (noId_spec h2) h4⟩
  · exact {
      boxes := fun i cs' hl => by
        simp only [LS.newBox, look_setA] at hl
        by_cases e0 : id = i
        · subst e0
          simp only [if_true, Option.some.injEq] at hl
          subst hl
          refine ⟨w.heap.size, by simp [Ghost.addBox], ⟨arr, e, heap_alloc_new w _, hr.1, fun j d v hd hv => ?_⟩, by simp [Ghost.addBox, Ghost.grow], .inl hW.sz⟩
          exact rG (fun hi => hcs (mem_idsL (List.mem_of_getElem? hd) hi)) (hr.2 j d v hd hv)
        · rw [if_neg e0] at hl
          simp only [LS.forget, look_eraseK, if_neg e0] at hl
          obtain ⟨h1, h2⟩ := look_keepA _ _ _ _ hl
          obtain ⟨g, k1, k2, k3, k4⟩ := hW.boxes i cs' h1
          exact ⟨g, hβ i g (fun e => e0 e.symm) k1, hbox (noIdL_spec h2) k2, by rw [hlim g (hW.blt _ _ k1)]; exact k3, k4⟩
      robs := fun i cs' hl => by
        simp only [LS.newBox, LS.forget, look_eraseK] at hl
        by_cases e0 : id = i
        · rw [if_pos e0] at hl; cases hl
        · rw [if_neg e0] at hl
          obtain ⟨h1, h2⟩ := look_keepA _ _ _ _ hl
          obtain ⟨g, k1, k2, k3, k4⟩ := hW.robs i cs' h1
          exact ⟨g, hβ i g (fun e => e0 e.symm) k1, hbox (noIdL_spec h2) k2, k3, k4⟩
      toks := hW.toks
      tau := fun k g e' z hk => by
        obtain ⟨h1, h2, ⟨cur, h3, h4⟩, h5⟩ := hW.tau k g e' z hk
        refine ⟨h1, h2, ⟨cur, by rw [hold _ (heap_lt h3)]; exact h3, by rw [hlim _ (heap_lt h3)]; exact h4⟩, fun i hi => ?_⟩
        simp only [Ghost.addBox] at hi
        split at hi
        · have := heap_lt h3
          have := Option.some.inj hi
          omega
        · exact h5 i hi
      tinj := hW.tinj
      binj := fun i j g hi hj => by
        simp only [Ghost.addBox] at hi hj
        split at hi <;> split at hj
        · omega
        · have := hW.blt _ _ hj
          have := Option.some.inj hi
          omega
        · have := hW.blt _ _ hi
          have := Option.some.inj hj
          omega
        · exact hW.binj i j g hi hj
      blt := fun i g hi => by
        simp only [Ghost.addBox] at hi
        split at hi
        · have := Option.some.inj hi; simp; omega
        · have := hW.blt _ _ hi; simp; omega
      lablt := fun b hb => by have := hW.lablt b hb; simp; omega
      old := fun b hlt hab => by
        have hs := hW.sz
        rw [hold b (by omega), hlim b (by omega)]
        exact hW.old b hlt hab
      olda := fun b hlt => by
        have hs := hW.sz
        rw [hlim b (by omega)]
        refine ⟨(hW.olda b hlt).1, fun q v hq hc => ?_⟩
        rw [cell_of_heap (hold b (by omega))]
        exact (hW.olda b hlt).2 q v hq hc
      oldl := hW.oldl
      tlab := hW.tlab
      blab := fun i g hi => by
        simp only [Ghost.addBox] at hi
        split at hi
        · obtain rfl := Option.some.inj hi
          exact Classical.byContradiction fun hne => Nat.lt_irrefl _ (hW.lablt _ hne)
        · exact hW.blab i g hi
      oldu := hW.oldu
      labw := fun b hb hor => by
        obtain ⟨vs, e', h1⟩ := hW.labw b hb hor
        exact ⟨vs, e', by rw [hold b (hW.lablt b hb)]; exact h1⟩
      ids := fun p hp => hβ p.1 p.2 (fun e => hfix (e ▸ h.fixed p hp)) (hW.ids p hp)
      sz := by have := hW.sz; simp; omega
      os := hW.os
      tape := hW.tape
      out := hW.out }

theorem newBox_sim {B : Base} {L : LS} {G : Ghost} {a : Act} {w : World} (h : Sim B L G a w) {t id : Nat} {cs : List D} {arr : Array Value} (e : TypeId) (ht : t < L.n) (hfix : id ∉ L.fix) (hcs : id ∉ D.idsL cs) (hr : RelArr G w cs arr)
    {dd : D} {vv : Value} (hd0 : Rel (G.addBox w.heap.size id) (w.alloc (.cells arr e)) dd vv) :
    Sim B (L.newBox t id cs dd) (G.addBox w.heap.size id) (a.put (some t) vv) (w.alloc (.cells arr e)) :=
  newBox_simC h e ht hfix hcs ⟨Nat.le_of_eq hr.1.symm, hr.2⟩ hd0

/-- A store into a box. -/
theorem store_sim {B : Base} {L : LS} {G : Ghost} {a : Act} {w : World} (h : Sim B L G a w) {id off : Nat} {cs new : List D} {vl : List Value} (hl : look L.boxes id = some cs) (hoff : off + new.length ≤ cs.length)
    (hn : vl.length = new.length) (hr : ∀ (j : Nat) d v, new[j]? = some d → vl[j]? = some v → Rel G w d v) (h1 : ∀ v ∈ vl, v.oneCell' = true) :
    ∃ g w', G.β id = some g ∧ (∀ P : Program, (storeCells ⟨g, off, none⟩ vl).run P w = .ok () w') ∧ Sim B { L with boxes := setA L.boxes id (putCells cs off new) } G a w' := by
  have hW := h.W
  obtain ⟨g, k1, ⟨vs, e, e1, e2, e3⟩, k3, k4⟩ := hW.boxes id cs hl
  let vs' := (vs.toList.take (off + 0) ++ vl ++ vs.toList.drop (off + 0 + vl.length)).toArray
  have hg := heap_lt e1
  have hsame : (w.setRow g vs').heap[g]? = some (.cells vs' e (0, 0)) := setRow_heap w g vs vs' e (0, 0) e1
  have hother : ∀ b, b ≠ g → (w.setRow g vs').heap[b]? = w.heap[b]? := fun b hb => setRow_other w g b vs' hb
  have hmn : Mono G G w (w.setRow g vs') := by
    refine ⟨fun b o v h1 h2 => ⟨h1, ?_⟩, fun _ _ => rfl⟩
    have hb : b ≠ g := fun e => by subst e; rw [k3] at h1; omega
    rw [cell_of_heap (hother b hb)]; exact h2
  have hτg : ∀ {k g' e' z}, G.τ k = some (some (g', e', z)) → g' ≠ g := fun {k g' e' z} hk e => by
    subst e
    exact (hW.tau k _ e' z hk).2.2.2 id k1
  have rG : ∀ {d v}, Rel G w d v → Rel G (w.setRow g vs') d v := fun hr =>
    hr.mono hmn (fun _ _ _ h => h) (fun k _ => .inr ⟨rfl, fun g' e' z hk => ⟨rfl, shape_of_heap (hother g' (hτg hk))⟩⟩)
  have hbox : ∀ {g' cs}, g' ≠ g → BoxAt G w g' cs → BoxAt G (w.setRow g vs') g' cs := fun {g' cs} hne ⟨vs, e', e1, e2, e3⟩ =>
    ⟨vs, e', by rw [hother _ hne]; exact e1, e2, fun j d v hd hv => rG (e3 j d v hd hv)⟩
  refine ⟨g, w.setRow g vs', k1, fun P => ?_, h.defers, h.size, fun t d hd => ?_, ?_, h.fixed⟩
  · exact run_storeCells_at P g off e vl 0 vs w e1 (by omega) h1
  · obtain ⟨v, h1, h2⟩ := h.env t d hd
    exact ⟨v, h1, rG h2⟩
  · have hsz : (w.setRow g vs').heap.size = w.heap.size := by simp [World.setRow]
    exact {
      boxes := fun i cs' hl' => by
        simp only [look_setA] at hl'
        by_cases e0 : id = i
        · subst e0
          simp only [if_true, Option.some.injEq] at hl'
          subst hl'
          refine ⟨g, k1, ⟨vs', e, hsame, ?_, fun j d v hd hv => ?_⟩, k3, k4⟩
          · rw [putCells_length hoff]
            simp [vs']
            omega
          · rw [putCells_get hoff] at hd
            have hvg : vs'[j]? = if off ≤ j ∧ j < off + new.length then vl[j - off]? else vs.toList[j]? := by
              have hlen : (vs.toList.take (off + 0)).length = off := by simp; omega
              simp only [vs', List.getElem?_toArray]
              by_cases c1 : j < off
              · rw [if_neg (by omega), List.append_assoc, List.getElem?_append_left (by omega), List.getElem?_take, if_pos (by omega)]
              · by_cases c2 : j < off + new.length
                · rw [if_pos (by omega), List.append_assoc, List.getElem?_append_right (by omega), hlen, List.getElem?_append_left (by omega)]
                · rw [if_neg (by omega), List.getElem?_append_right (by simp; omega), List.getElem?_drop]
                  congr 1
                  simp
                  omega
            rw [hvg] at hv
            by_cases hc : off ≤ j ∧ j < off + new.length
            · rw [if_pos hc] at hd hv
              exact rG (hr _ d v hd hv)
            · rw [if_neg hc] at hd hv
              exact rG (e3 j d v hd (by simpa using hv))
        · rw [if_neg e0] at hl'
          obtain ⟨g', q1, q2, q3, q4⟩ := hW.boxes i cs' hl'
          exact ⟨g', q1, hbox (fun e => e0 (by subst e; exact hW.binj _ _ _ k1 q1)) q2, q3, q4⟩
      robs := fun i cs' hl' => by
        obtain ⟨g', q1, q2, q3, q4⟩ := hW.robs i cs' hl'
        refine ⟨g', q1, hbox (fun e => ?_) q2, q3, q4⟩
        subst e
        rcases k4 with k4 | k4
        · omega
        · exact q4 k4
      toks := hW.toks
      tau := fun k g' e' z hk => by
        obtain ⟨q1, q2, ⟨cur, q3, q4⟩, q5⟩ := hW.tau k g' e' z hk
        exact ⟨q1, q2, ⟨cur, by rw [hother _ (hτg hk)]; exact q3, q4⟩, q5⟩
      tinj := hW.tinj
      binj := hW.binj
      blt := fun i g' hi => by rw [hsz]; exact hW.blt i g' hi
      lablt := fun b hb => by rw [hsz]; exact hW.lablt b hb
      old := fun b hlt hab => by
        have hb : b ≠ g := fun e => by
          subst e
          rcases k4 with k4 | k4
          · omega
          · exact hab k4
        rw [hother b hb]
        exact hW.old b hlt hab
      olda := fun b hlt => by
        obtain ⟨q1, q2⟩ := hW.olda b hlt
        refine ⟨q1, fun o v ho hc => ?_⟩
        have hb : b ≠ g := fun e => by subst e; rw [k3] at q1; omega
        rw [cell_of_heap (hother b hb)]
        exact q2 o v ho hc
      oldl := hW.oldl
      tlab := hW.tlab
      blab := hW.blab
      oldu := hW.oldu
      labw := fun b hb hor => by
        obtain ⟨vs, e', h1⟩ := hW.labw b hb hor
        refine ⟨vs, e', ?_⟩
        rw [hother b (fun e0 => hb (by rw [e0]; exact hW.blab _ _ k1))]
        exact h1
      ids := hW.ids
      sz := by rw [hsz]; exact hW.sz
      os := hW.os
      tape := hW.tape
      out := hW.out }

end Go.Lg
