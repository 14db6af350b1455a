/-
  Lg, part 9: append, make.
-/
import Derived.Test.YtenjmepbaajkjaaLgBox
namespace Go.Lg
open Go Go.RowKit

/-- Tokens 'k' with 'p k' are forgotten. -/
def LS.purge (L : LS) (p : Nat → Bool) : LS :=
  { L with env := mapA (D.pu p) L.env, boxes := mapA (List.map (D.pu1 p)) L.boxes, ro := mapA (List.map (D.pu1 p)) L.ro }

/-- No token of 'p' is mentioned any more. -/
def LS.clean (L : LS) (p : Nat → Bool) : Bool :=
  L.env.all (fun q => q.2.tks.all fun k => !p k) && L.boxes.all (fun q => (D.tksL q.2).all fun k => !p k) && L.ro.all (fun q => (D.tksL q.2).all fun k => !p k)

theorem pu1_le_map {p : Nat → Bool} {cs : List D} {j : Nat} {d : D} (h : (cs.map (D.pu1 p))[j]? = some d) : ∃ c, cs[j]? = some c ∧ D.le c d := by
  simp only [List.getElem?_map, Option.map_eq_some_iff] at h
  obtain ⟨c, h1, rfl⟩ := h
  exact ⟨c, h1, D.le_pu1 p c⟩

theorem purge_sim {B : Base} {L : LS} {G : Ghost} {a : Act} {w : World} (h : Sim B L G a w) (p : Nat → Bool) : Sim B (L.purge p) G a w := by
  have hbox : ∀ {g cs}, BoxAt G w g cs → BoxAt G w g (cs.map (D.pu1 p)) := fun {g cs} ⟨vs, e, e1, e2, e3⟩ =>
    ⟨vs, e, e1, by simpa using e2, fun j d v hd hv => by
      obtain ⟨c, h1, h2⟩ := pu1_le_map hd
      exact (e3 j c v h1 hv).le h2⟩
  refine ⟨h.defers, h.size, fun t d hd => ?_, { h.W with boxes := fun id cs hl => ?_, robs := fun id cs hl => ?_ }, h.fixed⟩
  · simp only [LS.purge, look_mapA, Option.map_eq_some_iff] at hd
    obtain ⟨d0, hd, rfl⟩ := hd
    obtain ⟨v, h1, h2⟩ := h.env t d0 hd
    exact ⟨v, h1, h2.le (D.le_pu p d0)⟩
  · simp only [LS.purge, look_mapA, Option.map_eq_some_iff] at hl
    obtain ⟨c0, hl, rfl⟩ := hl
    obtain ⟨g, h1, h2, h3⟩ := h.W.boxes id c0 hl
    exact ⟨g, h1, hbox h2, h3⟩
  · simp only [LS.purge, look_mapA, Option.map_eq_some_iff] at hl
    obtain ⟨c0, hl, rfl⟩ := hl
    obtain ⟨g, h1, h2, h3⟩ := h.W.robs id c0 hl
    exact ⟨g, h1, hbox h2, h3⟩

theorem clean_env {L : LS} {p : Nat → Bool} (h : L.clean p = true) {t : Nat} {d : D} (hd : look L.env t = some d) {k : Nat} (hk : k ∈ d.tks) : p k = false := by
  simp only [LS.clean, Bool.and_eq_true, List.all_eq_true] at h
  have := h.1.1 _ (mem_of_look hd) k hk
  simpa using this
theorem clean_box {L : LS} {p : Nat → Bool} (h : L.clean p = true) {t : Nat} {cs : List D} (hd : look L.boxes t = some cs) {d : D} (hm : d ∈ cs) {k : Nat} (hk : k ∈ d.tks) : p k = false := by
  simp only [LS.clean, Bool.and_eq_true, List.all_eq_true] at h
  have := h.1.2 _ (mem_of_look hd) k (mem_tksL hm hk)
  simpa using this
theorem clean_ro {L : LS} {p : Nat → Bool} (h : L.clean p = true) {t : Nat} {cs : List D} (hd : look L.ro t = some cs) {d : D} (hm : d ∈ cs) {k : Nat} (hk : k ∈ d.tks) : p k = false := by
  simp only [LS.clean, Bool.and_eq_true, List.all_eq_true] at h
  have := h.2 _ (mem_of_look hd) k (mem_tksL hm hk)
  simpa using this

/-- Token 'tok' is given out anew (nothing mentions it). -/
def Ghost.setTok (G : Ghost) (tok : Nat) (x : Option (Option (Nat × TypeId × Nat))) : Ghost := { G with τ := fun k => if k = tok then x else G.τ k }

/-- A step that changes cells that nothing stable covers, and the ghost's tokens: the new token is 'tok'. -/
structure TokStep (B : Base) (G G' : Ghost) (w w' : World) (tok : Nat) : Prop where
  mono : Mono G G' w w'
  beta : G'.β = G.β
  lab : G'.lab = G.lab
  sz : w.heap.size ≤ w'.heap.size
  os : w'.os = w.os
  tape : w'.tape = w.tape
  out : w'.output = w.output
  -- tokens other than the new one: gone, or as they were
  tau : ∀ k, k ≠ tok → G'.τ k = none ∨ (G'.τ k = G.τ k ∧ ∀ g e z, G.τ k = some (some (g, e, z)) → G'.lim g = G.lim g ∧ w'.heap[g]? = w.heap[g]?)
  -- a block that has turned is one of the call's own, and no box
  block : ∀ b, b < w.heap.size → (w'.heap[b]? = w.heap[b]? ∧ G'.lim b = G.lim b) ∨ ((B.w.heap.size ≤ b ∨ B.ab b) ∧ (∀ i, G.β i ≠ some b) ∧ G.lim b ≤ G'.lim b ∧ G.lab b = [])
  -- the new token
  new : ∀ g e z, G'.τ tok = some (some (g, e, z)) → (B.w.heap.size ≤ g ∨ B.ab g) ∧ 0 < z ∧ (∃ cur, w'.heap[g]? = some (.cells cur e (0, 0)) ∧ G'.lim g ≤ cur.size) ∧ (∀ i, G.β i ≠ some g) ∧
    (∀ k e' z', k ≠ tok → G'.τ k ≠ some (some (g, e', z'))) ∧ G.lab g = []
  live : G'.τ tok ≠ none

theorem tokStep_sim {B : Base} {L : LS} {G G' : Ghost} {a : Act} {w w' : World} {tok : Nat} (h : Sim B L G a w) (hs : TokStep B G G' w w' tok) (hc : L.clean (fun k => k == tok) = true) {tk : List Nat}
    (htk : ∀ k ∈ tk, k = tok ∨ (G'.τ k = G.τ k ∧ k ∈ L.toks)) : Sim B { L with toks := tk } G' a w' := by
  have hW := h.W
  have rG : ∀ {d v}, (∀ k ∈ d.tks, k ≠ tok) → Rel G w d v → Rel G' w' d v := fun {d v} hne hr =>
    hr.mono hs.mono (fun i _ g hg => by rw [hs.beta]; exact hg) (fun k hk => by
      rcases hs.tau k (hne k hk) with h1 | ⟨h1, h2⟩
      · exact .inl h1
      · exact .inr ⟨h1, fun g e z hg => ⟨(h2 g e z hg).1, shape_of_heap (h2 g e z hg).2⟩⟩)
  have hsame : ∀ i g, G.β i = some g → w'.heap[g]? = w.heap[g]? ∧ G'.lim g = G.lim g := fun i g hg => by
    rcases hs.block g (hW.blt i g hg) with h1 | ⟨_, h2, _⟩
    · exact h1
    · exact absurd hg (h2 i)
  have ne_of : ∀ {k : Nat}, (fun k => k == tok) k = false → k ≠ tok := fun hk e => by subst e; simp at hk
  refine ⟨h.defers, h.size, fun t d hd => ?_, ?_, h.fixed⟩
  · obtain ⟨v, h1, h2⟩ := h.env t d hd
    exact ⟨v, h1, rG (fun k hk => ne_of (clean_env hc hd hk)) h2⟩
  · exact {
      boxes := fun id cs hl => by
        obtain ⟨g, k1, ⟨vs, e, e1, e2, e3⟩, k3, k4⟩ := hW.boxes id cs hl
        refine ⟨g, by rw [hs.beta]; exact k1, ⟨vs, e, by rw [(hsame id g k1).1]; exact e1, e2, fun j d v hd hv => ?_⟩, by rw [(hsame id g k1).2]; exact k3, k4⟩
        exact rG (fun k hk => ne_of (clean_box hc hl (List.mem_of_getElem? hd) hk)) (e3 j d v hd hv)
      robs := fun id cs hl => by
        obtain ⟨g, k1, ⟨vs, e, e1, e2, e3⟩, k3, k4⟩ := hW.robs id cs hl
        refine ⟨g, by rw [hs.beta]; exact k1, ⟨vs, e, by rw [(hsame id g k1).1]; exact e1, e2, fun j d v hd hv => ?_⟩, k3, k4⟩
        exact rG (fun k hk => ne_of (clean_ro hc hl (List.mem_of_getElem? hd) hk)) (e3 j d v hd hv)
      toks := fun k hk => by
        rcases htk k hk with rfl | ⟨h1, h2⟩
        · cases hx : G'.τ k with
          | none => exact absurd hx hs.live
          | some x => exact ⟨x, rfl⟩
        · rw [h1]; exact hW.toks k h2
      tau := fun k g e z hk => by
        by_cases hkt : k = tok
        · subst hkt
          obtain ⟨h1, h2, h3, h4, _, _⟩ := hs.new g e z hk
          exact ⟨h1, h2, h3, fun i => by rw [hs.beta]; exact h4 i⟩
        · rcases hs.tau k hkt with h1 | ⟨h1, h2⟩
          · rw [h1] at hk; cases hk
          · rw [h1] at hk
            obtain ⟨q1, q2, ⟨cur, q3, q4⟩, q5⟩ := hW.tau k g e z hk
            obtain ⟨q6, q7⟩ := h2 g e z hk
            exact ⟨q1, q2, ⟨cur, by rw [q7]; exact q3, by rw [q6]; exact q4⟩, fun i => by rw [hs.beta]; exact q5 i⟩
      tinj := fun k k' g e z e' z' hk hk' => by
        by_cases h1 : k = tok
        · subst h1
          by_cases h2 : k' = k
          · exact h2.symm
          · exact absurd hk' ((hs.new g e z hk).2.2.2.2.1 k' e' z' h2)
        · by_cases h2 : k' = tok
          · subst h2
            exact absurd hk ((hs.new g e' z' hk').2.2.2.2.1 k e z h1)
          · rcases hs.tau k h1 with q | ⟨q, _⟩
            · rw [q] at hk; cases hk
            · rcases hs.tau k' h2 with q' | ⟨q', _⟩
              · rw [q'] at hk'; cases hk'
              · rw [q] at hk; rw [q'] at hk'
                exact hW.tinj k k' g e z e' z' hk hk'
      binj := by rw [hs.beta]; exact hW.binj
      blt := fun i g hg => by rw [hs.beta] at hg; exact Nat.lt_of_lt_of_le (hW.blt i g hg) hs.sz
      lablt := fun b hb => by rw [hs.lab] at hb; exact Nat.lt_of_lt_of_le (hW.lablt b hb) hs.sz
      old := fun b hlt hab => by
        have hs1 := hW.sz
        obtain ⟨h1, h2⟩ := hW.old b hlt hab
        rcases hs.block b (by omega) with ⟨q1, q2⟩ | ⟨q1, _, _⟩
        · exact ⟨q1.trans h1, q2.trans h2⟩
        · rcases q1 with q1 | q1
          · omega
          · exact absurd q1 hab
      olda := fun b hlt => by
        have hs1 := hW.sz
        obtain ⟨h1, h2⟩ := hW.olda b hlt
        have hle : G.lim b ≤ G'.lim b := by
          rcases hs.block b (by omega) with ⟨_, q2⟩ | ⟨_, _, q3⟩
          · omega
          · exact q3.1
        exact ⟨Nat.le_trans h1 hle, fun o v ho hc => (hs.mono.cell b o v (by omega) (h2 o v ho hc)).2⟩
      oldl := fun b hlt hb => by rw [hs.lab]; exact hW.oldl b hlt hb
      tlab := fun k g e z hk => by
        rw [hs.lab]
        by_cases hkt : k = tok
        · subst hkt
          exact (hs.new g e z hk).2.2.2.2.2
        · rcases hs.tau k hkt with h1 | ⟨h1, _⟩
          · rw [h1] at hk; cases hk
          · rw [h1] at hk; exact hW.tlab k g e z hk
      blab := fun i g hg => by rw [hs.beta] at hg; rw [hs.lab]; exact hW.blab i g hg
      oldu := fun b hlt hab hb => by rw [hs.lab]; exact hW.oldu b hlt hab hb
      labw := fun b hb hor => by
        rw [hs.lab] at hb
        obtain ⟨vs, e, h1⟩ := hW.labw b hb hor
        rcases hs.block b (hW.lablt b hb) with ⟨q1, _⟩ | ⟨_, _, _, q4⟩
        · exact ⟨vs, e, by rw [q1]; exact h1⟩
        · exact absurd q4 hb
      ids := fun p hp => by rw [hs.beta]; exact hW.ids p hp
      sz := Nat.le_trans hW.sz hs.sz
      os := hs.os.trans hW.os
      tape := hs.tape.trans hW.tape
      out := hs.out.trans hW.out }


theorem memOk_one : ∀ {d : D}, d.memOk = true → d.one = true
  | .int .., _ => rfl
  | .bool _, _ => rfl
  | .str _, _ => rfl
  | .imm _, _ => rfl
  | .sl _ _, _ => rfl
  | .fn _ _, _ => rfl

/-- The cells of a slice, as a list. -/
theorem rel_list {G : Ghost} {w : World} {tk : Tk} {ys : List D} {A : Option Addr} {m c : Nat} (h : Rel G w (.sl tk ys) (.slice A m c)) :
    m = ys.length ∧ m ≤ c ∧ c ≤ maxLen ∧ (∀ d ∈ flat ys, d.memOk = true) ∧ (ys ≠ [] → ∃ b o, A = some ⟨b, o, none⟩ ∧ ∃ news : List Value, news.length = (flat ys).length ∧ (∀ (j : Nat) u, news[j]? = some u → w.cell? ⟨b, o + j, none⟩ = some u) ∧
      (∀ (j : Nat) d u, (flat ys)[j]? = some d → news[j]? = some u → Rel G w d u) ∧ (∀ u ∈ news, u.oneCell' = true) ∧ ∀ j, j < (flat ys).length → o + j < G.lim b) := by
  cases h with
  | @sl _ _ _ _ _ b o s hn hc hm ht hA hu hk hst hr =>
  refine ⟨hn, hc, hm, hk, fun hne => ⟨b, o, hA.resolve_left hne, (List.range (flat ys).length).map (fun j => (w.cell? ⟨b, o + j, none⟩).getD undef), by simp, fun j u hu' => ?_, fun j d u hd hu' => ?_, fun u hu' => ?_, fun j hj => ?_⟩⟩
  · have hj : j < (flat ys).length := by have := (List.getElem?_eq_some_iff.1 hu').1; simpa using this
    obtain ⟨_, v, hv⟩ := hst j _ (List.getElem?_eq_getElem hj)
    simp only [List.getElem?_map, List.getElem?_range hj, Option.map_some, hv, Option.getD_some, Option.some.injEq] at hu'
    subst hu'; exact hv
  · have hj : j < (flat ys).length := (List.getElem?_eq_some_iff.1 hd).1
    obtain ⟨_, v, hv⟩ := hst j d hd
    simp only [List.getElem?_map, List.getElem?_range hj, Option.map_some, hv, Option.getD_some, Option.some.injEq] at hu'
    subst hu'; exact hr j d v hd hv
  · obtain ⟨j, hj, rfl⟩ := List.mem_map.1 hu'
    have hj' : j < (flat ys).length := by simpa using hj
    obtain ⟨_, v, hv⟩ := hst j _ (List.getElem?_eq_getElem hj')
    rw [hv]
    exact (hr j _ v (List.getElem?_eq_getElem hj') hv).one (memOk_one (hk _ (List.getElem_mem hj')))
  · exact (hst j _ (List.getElem?_eq_getElem hj)).1

theorem run_append_zero {P : Program} (w : World) (t ty e : TypeId) (i : TypeInfo) (ht : P.underlying t = some (.slice e)) (hi : P.info? e = some i) (A : Option Addr) (n c : Nat) (hnc : n ≤ c) (A2 : Option Addr) (c2 : Nat) :
    (Builtin.append_ #[t, t] ty #[.slice A n c, .slice A2 0 c2]).run P w = .ok (.slice A n c) w := by
  cases A <;> cases A2 <;> simp [Builtin.append_, run_underlying ht, sizeOf, typeInfo, hi, Builtin.lenOf, Builtin.firstCells, loadCells, loadCellsFrom, hnc, storeCells]

/-- A fresh row: old cells, new cells, spare ones. -/
theorem fresh_step {B : Base} {L : LS} {G : Ghost} {a : Act} {w : World} (h : Sim B L G a w) (arr : Array Value) (e : TypeId) (z N : Nat) (hz : 0 < z) (hN : N ≤ arr.size) (tok : Nat) (τ' : Nat → Option (Option (Nat × TypeId × Nat)))
    (hτ : ∀ k, τ' k = none ∨ τ' k = G.τ k) :
    TokStep B G (({ G.grow w.heap.size N with τ := τ' } : Ghost).setTok tok (some (some (w.heap.size, e, z)))) w (w.drew.alloc (.cells arr e)) tok := by
  have hW := h.W
  have hold : ∀ b, b < w.heap.size → (w.drew.alloc (.cells arr e)).heap[b]? = w.heap[b]? := fun b hb => Below.heap_alloc w.drew _ b hb
  have hlim : ∀ b, b < w.heap.size → (G.grow w.heap.size N).lim b = G.lim b := fun b hb => by simp only [Ghost.grow]; rw [if_neg (by omega)]
  have hmn : Mono G (({ G.grow w.heap.size N with τ := τ' } : Ghost).setTok tok (some (some (w.heap.size, e, z)))) w (w.drew.alloc (.cells arr e)) := by
    refine ⟨fun b o v h1 h2 => ?_, fun _ _ => rfl⟩
    have hlt := cell_lt h2
    exact ⟨by show o < (G.grow w.heap.size N).lim b; rw [hlim b hlt]; exact h1, by rw [cell_of_heap (hold b hlt)]; exact h2⟩
  have hnew : (w.drew.alloc (.cells arr e)).heap[w.heap.size]? = some (.cells arr e (0, 0)) := heap_alloc_new w.drew _
  refine {
    mono := hmn
    beta := rfl
    lab := rfl
    sz := by simp
    os := rfl
    tape := rfl
    out := rfl
    tau := fun k hk => ?_
    block := fun b hb => .inl ⟨hold b hb, hlim b hb⟩
    new := fun g e' z' hg => ?_
    live := by simp [Ghost.setTok] }
  · simp only [Ghost.setTok, if_neg hk]
    rcases hτ k with h1 | h1
    · exact .inl h1
    · refine .inr ⟨h1, fun g e' z' hg => ?_⟩
      obtain ⟨_, _, ⟨cur, hc, _⟩, _⟩ := hW.tau k g e' z' hg
      exact ⟨hlim g (heap_lt hc), hold g (heap_lt hc)⟩
  · simp only [Ghost.setTok, if_true, Option.some.injEq, Prod.mk.injEq] at hg
    obtain ⟨rfl, rfl, rfl⟩ := hg
    refine ⟨.inl hW.sz, hz, ⟨arr, hnew, by simpa [Ghost.setTok, Ghost.grow] using hN⟩, fun i hi => ?_, fun k e' z' hk hkk => ?_, Classical.byContradiction fun hne => Nat.lt_irrefl _ (hW.lablt _ hne)⟩
    · have := hW.blt _ _ hi; omega
    · simp only [Ghost.setTok, if_neg hk] at hkk
      rcases hτ k with h1 | h1
      · rw [h1] at hkk; cases hkk
      · rw [h1] at hkk
        obtain ⟨_, _, ⟨cur, hc, _⟩, _⟩ := hW.tau k _ _ _ hkk
        have := heap_lt hc
        omega

end Go.Lg
