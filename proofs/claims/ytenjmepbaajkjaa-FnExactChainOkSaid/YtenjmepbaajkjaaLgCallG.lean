/-
  Lg, part 11: a call that is handed boxes (to write) and tokens (to append).
-/
import Derived.Test.YtenjmepbaajkjaaLgApp2
namespace Go.Lg
open Go Go.RowKit

theorem look_append {α : Type} (l m : List (Nat × α)) (t : Nat) : look (l ++ m) t = match look l t with | some x => some x | none => look m t := by
  induction l with
  | nil => rfl
  | cons p r ih =>
    obtain ⟨k, x⟩ := p
    by_cases h : k = t
    · simp [look, h]
    · simp [look, h, ih]
def eraseKs {α : Type} : List Nat → List (Nat × α) → List (Nat × α)
  | [], l => l
  | k :: ks, l => eraseK k (eraseKs ks l)
theorem look_eraseKs {α : Type} (ks : List Nat) (l : List (Nat × α)) (t : Nat) : look (eraseKs ks l) t = if t ∈ ks then none else look l t := by
  induction ks with
  | nil => simp [eraseKs]
  | cons k ks ih =>
    simp only [eraseKs, look_eraseK, ih, List.mem_cons]
    by_cases h : k = t
    · subst h; simp
    · have : ¬ t = k := fun e => h e.symm
      simp [h, this]

/-- The state behind such a call. -/
def LS.after (L : LS) (off : Nat) (cx : List (Nat × List D)) (tk0 : List Nat) (cx' : List (Nat × List D)) (tk' : List Nat) : LS :=
  { L with boxes := mapA (D.shTL off) cx' ++ eraseKs (cx.map (·.1)) L.boxes, toks := tk'.map (· + off) ++ L.toks.filter (fun k => !tk0.contains k && !inTok off k) }

theorem call_sound {S : Setup} {B : Base} {L : LS} {G : Ghost} {a : Act} {w : World} (h : Sim B L G a w) {f : FuncId} {ro cx : List (Nat × List D)} {tk0 : List Nat} {ds : List D} {d : D} {cx' : List (Nat × List D)} {tk' : List Nat} {vals : Array Value} (off : Nat)
    (hv : vals.size = ds.length) (hr : ∀ (j : Nat) d v, ds[j]? = some d → vals[j]? = some v → Rel G w d v) (hro : ∀ p ∈ ro, L.getBox p.1 = some p.2 ∧ p.1 ∉ cx.map (·.1)) (hb : ∀ p ∈ cx, look L.boxes p.1 = some p.2) (ht0 : ∀ k ∈ tk0, k ∈ L.toks)
    (fc : FC S f ro cx tk0 ds d cx' tk') (hkeys : ∀ p ∈ cx', p.1 ∈ cx.map (·.1)) (hid : ∀ i ∈ d.ids, i ∈ cx.map (·.1)) (hid' : ∀ p ∈ cx', ∀ i ∈ D.idsL p.2, i ∈ cx.map (·.1))
    (hdt : ∀ k ∈ d.tks, k ∈ tk') (hdt' : ∀ p ∈ cx', ∀ k ∈ D.tksL p.2, k ∈ tk') (hlt : ∀ k ∈ tk', k < 1000) (hc : L.clean (inTok off) = true) :
    Calls S.P f vals w fun e w' => ∃ v G', e = .returned v ∧ Sim B (L.after off cx tk0 cx' tk') G' a w' ∧ Rel G' w' (d.shT off) v := by
  have hW := h.W
  let G1 : Ghost := { G with τ := fun k => if k ∈ tk0 then G.τ k else none }
  have hm1 : Mono G G1 w w := ⟨fun _ _ _ h1 h2 => ⟨h1, h2⟩, fun _ _ => rfl⟩
  have r1 : ∀ {d v}, Rel G w d v → Rel G1 w d v := fun hr => hr.mono hm1 (fun _ _ _ h => h) (fun k _ => by
    by_cases hk : k ∈ tk0
    · exact .inr ⟨by simp [G1, hk], fun _ _ _ _ => ⟨rfl, rfl⟩⟩
    · exact .inl (by simp [G1, hk]))
  have hτ1 : ∀ {k x}, G1.τ k = some x → k ∈ tk0 ∧ G.τ k = some x := fun {k x} hk => by
    simp only [G1] at hk
    split at hk
    · rename_i h; exact ⟨h, hk⟩
    · cases hk
  have hb1 : ∀ {g cs}, BoxAt G w g cs → BoxAt G1 w g cs := fun ⟨vs, e, e1, e2, e3⟩ => ⟨vs, e, e1, e2, fun j d v hd hv => r1 (e3 j d v hd hv)⟩
  -- the blocks that the callee may change
  have habT : ∀ {k g e z}, k ∈ tk0 → G.τ k = some (some (g, e, z)) → (baseOf G1 w cx tk0).ab g := fun {k g e z} hk hg => .inr ⟨k, hk, e, z, by simp [G1, hk, hg]⟩
  have habB : ∀ {p g}, p ∈ cx → G.β p.1 = some g → (baseOf G1 w cx tk0).ab g := fun {p g} hp hg => .inl ⟨p, hp, hg⟩
  have hnab : ∀ {b}, (∀ p ∈ cx, G.β p.1 ≠ some b) → (∀ k ∈ tk0, ∀ e z, G.τ k ≠ some (some (b, e, z))) → ¬ (baseOf G1 w cx tk0).ab b := fun {b} h1 h2 => by
    rintro (⟨p, hp, hg⟩ | ⟨k, hk, e, z, hg⟩)
    · exact h1 p hp hg
    · exact h2 k hk e z (hτ1 hg).2
  have hget : ∀ id cs, L.getBox id = some cs → ∃ g, G.β id = some g ∧ BoxAt G w g cs := fun id cs hgb => by
    unfold LS.getBox at hgb
    split at hgb
    · rename_i c hc
      obtain rfl : c = cs := by simpa using hgb
      obtain ⟨g, h1, h2, _⟩ := hW.boxes id c hc
      exact ⟨g, h1, h2⟩
    · obtain ⟨g, h1, h2, _⟩ := hW.robs id cs hgb
      exact ⟨g, h1, h2⟩
  have hstart : Sim (baseOf G1 w cx tk0) ⟨ds.length, enumD 0 ds, cx, ro, tk0, cx.map (·.1)⟩ G1 ⟨vals, []⟩ w := by
    refine ⟨rfl, hv, fun t d hd => ?_, ?_, fun p hp => ?_⟩
    · rw [look_enumD] at hd
      simp only [Nat.zero_le, if_true, Nat.sub_zero] at hd
      have hlt : t < vals.size := by rw [hv]; exact (List.getElem?_eq_some_iff.1 hd).1
      exact ⟨vals[t], by simp [hlt], r1 (hr t d _ hd (by simp [hlt]))⟩
    · exact {
        boxes := fun id cs hl => by
          obtain ⟨g, h1, h2, h3, _⟩ := hW.boxes id cs (hb _ (mem_of_look hl))
          exact ⟨g, h1, hb1 h2, h3, .inr (habB (mem_of_look hl) h1)⟩
        robs := fun id cs hl => by
          have hm := mem_of_look hl
          obtain ⟨g, h1, h2⟩ := hget id cs (hro _ hm).1
          have hg := hW.blt _ _ h1
          refine ⟨g, h1, hb1 h2, hg, hnab (fun p hp hpg => ?_) (fun k hk e z hkg => ?_)⟩
          · have := hW.binj _ _ _ hpg h1
            exact (hro _ hm).2 (List.mem_map.2 ⟨p, hp, this⟩)
          · exact (hW.tau k g e z hkg).2.2.2 id h1
        toks := fun k hk => by
          obtain ⟨x, hx⟩ := hW.toks k (ht0 k hk)
          exact ⟨x, by simp [G1, hk, hx]⟩
        tau := fun k g e z hk => by
          obtain ⟨h1, h2⟩ := hτ1 hk
          obtain ⟨_, q2, q3, q4⟩ := hW.tau k g e z h2
          exact ⟨.inr (habT h1 h2), q2, q3, q4⟩
        tinj := fun k k' g e z e' z' hk hk' => hW.tinj k k' g e z e' z' (hτ1 hk).2 (hτ1 hk').2
        binj := hW.binj
        blt := hW.blt
        lablt := hW.lablt
        old := fun _ _ _ => ⟨rfl, rfl⟩
        olda := fun _ _ => ⟨Nat.le_refl _, fun _ _ _ h => h⟩
        oldl := fun _ _ _ => rfl
        tlab := fun k g e z hk => hW.tlab k g e z (hτ1 hk).2
        blab := hW.blab
        oldu := fun _ _ _ h => h
        labw := fun b hb hor => by
          rcases hor with hor | (⟨p, hp, hpg⟩ | ⟨k, hk, e, z, hg⟩)
          · exact absurd (hW.lablt b hb) (Nat.not_lt.2 hor)
          · exact absurd (hW.blab _ _ hpg) hb
          · exact absurd (hW.tlab k b e z (hτ1 hg).2) hb
        ids := fun p hp => by
          simp only [baseOf, List.mem_filterMap, Option.map_eq_some_iff] at hp
          obtain ⟨q, _, g, hg, rfl⟩ := hp
          exact hg
        sz := Nat.le_refl _
        os := rfl
        tape := rfl
        out := rfl }
    · simp only [baseOf, List.mem_filterMap, Option.map_eq_some_iff] at hp
      obtain ⟨q, hq, g, _, rfl⟩ := hp
      exact List.mem_map_of_mem hq
  refine (fc.2 w G1 vals hstart).mono ?_
  rintro e w' ⟨v, G', he, hend⟩
  have hE := hend.W
  let G2 : Ghost := { G' with β := G.β, τ := fun k => if inTok off k = true then (if k - off ∈ tk' then G'.τ (k - off) else none) else if k ∈ tk0 then none else G.τ k }
  have hmn : Mono G G2 w w' := by
    refine ⟨fun b o v h1 h2 => ?_, fun b hb => hE.oldl b (hW.lablt b hb) hb⟩
    obtain ⟨h3, h4⟩ := hE.olda b (cell_lt h2)
    exact ⟨Nat.lt_of_lt_of_le h1 h3, h4 o v h1 h2⟩
  -- old blocks of boxes that were not handed over, and of tokens that were not
  have oldT : ∀ {k g e z}, k ∉ tk0 → G.τ k = some (some (g, e, z)) → w'.heap[g]? = w.heap[g]? ∧ G'.lim g = G.lim g := fun {k g e z} hk hg => by
    obtain ⟨_, _, ⟨cur, hc, _⟩, hne⟩ := hW.tau k g e z hg
    exact hE.old g (heap_lt hc) (hnab (fun p _ => hne p.1) (fun k' hk' e' z' hg' => hk (by rw [hW.tinj k k' g e z e' z' hg hg']; exact hk')))
  have oldB : ∀ {id g}, id ∉ cx.map (·.1) → G.β id = some g → w'.heap[g]? = w.heap[g]? ∧ G'.lim g = G.lim g := fun {id g} hni hg =>
    hE.old g (hW.blt _ _ hg) (hnab (fun p hp hpg => hni (List.mem_map.2 ⟨p, hp, hW.binj _ _ _ hpg hg⟩)) (fun k hk e z hkg => (hW.tau k g e z hkg).2.2.2 id hg))
  have rG : ∀ {d v}, (∀ k ∈ d.tks, inTok off k = false) → Rel G w d v → Rel G2 w' d v := fun {d v} hcl hr =>
    hr.mono hmn (fun _ _ _ h => h) (fun k hk => by
      have h0 := hcl k hk
      by_cases hk0 : k ∈ tk0
      · exact .inl (by simp [G2, h0, hk0])
      · exact .inr ⟨by simp [G2, h0, hk0], fun g e z hg => ⟨(oldT hk0 hg).2, shape_of_heap (oldT hk0 hg).1⟩⟩)
  have inOff : ∀ {k}, k ∈ tk' → inTok off (k + off) = true := fun {k} hk => by
    have := hlt k hk
    simp [inTok]; omega
  have rE : ∀ {d v}, (∀ i ∈ d.ids, i ∈ cx.map (·.1)) → (∀ k ∈ d.tks, k ∈ tk') → Rel G' w' d v → Rel G2 w' (d.shT off) v := fun {d v} hi hk hr =>
    Rel.shift (G := G') (G' := G2) rfl rfl off hr (fun i hi' g hg => by
      obtain ⟨p, hp, rfl⟩ := List.mem_map.1 (hi i hi')
      obtain ⟨g0, h1, _⟩ := hW.boxes p.1 p.2 (hb p hp)
      have := hE.ids (p.1, g0) (by
        simp only [baseOf, List.mem_filterMap]
        exact ⟨p, hp, by simp [G1, h1]⟩)
      simp only at this
      rw [this] at hg
      obtain rfl := Option.some.inj hg
      exact h1) (fun k hk' => by
      have hm := hk k hk'
      simp only [G2]
      rw [if_pos (inOff hm), if_pos (by simpa using hm)]
      congr 1
      omega)
  -- a token of the callee's
  have newT : ∀ {k g e z}, inTok off k = true → G2.τ k = some (some (g, e, z)) → G'.τ (k - off) = some (some (g, e, z)) ∧ k - off ∈ tk' ∧ off ≤ k := fun {k g e z} hin hg => by
    simp only [G2, hin, if_true] at hg
    split at hg
    · rename_i hm
      refine ⟨hg, hm, ?_⟩
      simp only [inTok, Bool.and_eq_true, decide_eq_true_eq] at hin
      exact hin.1
    · cases hg
  have oldTok : ∀ {k x}, inTok off k = false → G2.τ k = some x → k ∉ tk0 ∧ G.τ k = some x := fun {k x} hin hg => by
    simp only [G2, hin, Bool.false_eq_true, if_false] at hg
    split at hg
    · cases hg
    · rename_i hm; exact ⟨hm, hg⟩
  -- where such a token's block lies
  have newTb : ∀ {k g e z}, inTok off k = true → G2.τ k = some (some (g, e, z)) → w.heap.size ≤ g ∨ ∃ k0 ∈ tk0, ∃ e z, G.τ k0 = some (some (g, e, z)) := fun {k g e z} hin hg => by
    obtain ⟨h1, _, _⟩ := newT hin hg
    obtain ⟨q1, _, _, q4⟩ := hE.tau _ g e z h1
    rcases q1 with q1 | (⟨p, hp, hpg⟩ | ⟨k0, hk0, e0, z0, h0⟩)
    · exact .inl q1
    · exfalso
      have hpg : G.β p.1 = some g := hpg
      have := hE.ids (p.1, g) (by
        simp only [baseOf, List.mem_filterMap]
        exact ⟨p, hp, by simp [G1, hpg]⟩)
      exact q4 p.1 this
    · exact .inr ⟨k0, hk0, e0, z0, (hτ1 h0).2⟩
  refine ⟨v, G2, he, ⟨h.defers, h.size, fun t d hd => ?_, ?_, h.fixed⟩, ?_⟩
  · obtain ⟨v, h1, h2⟩ := h.env t d hd
    exact ⟨v, h1, rG (fun k hk => clean_env hc hd hk) h2⟩
  · exact {
      boxes := fun id cs hl => by
        simp only [LS.after, look_append, look_mapA, look_eraseKs] at hl
        cases hcx : look cx' id with
        | some c0 =>
          rw [hcx] at hl
          simp only [Option.map_some, Option.some.injEq] at hl
          subst hl
          have hm := mem_of_look hcx
          obtain ⟨p, hp, hpe⟩ := List.mem_map.1 (hkeys _ hm)
          have hpe : p.1 = id := hpe
          obtain ⟨g0, h1, h2, h3, h4⟩ := hW.boxes p.1 p.2 (hb p hp)
          obtain ⟨g, q1, ⟨vs, e, e1, e2, e3⟩, q3, _⟩ := hE.boxes id c0 hcx
          have := hE.ids (p.1, g0) (by
            simp only [baseOf, List.mem_filterMap]
            exact ⟨p, hp, by simp [G1, h1]⟩)
          simp only at this
          rw [hpe, q1] at this
          obtain rfl := Option.some.inj this
          rw [hpe] at h1
          refine ⟨g, h1, ⟨vs, e, e1, by rw [shTL_map]; simpa using e2, fun j d v hd hv => ?_⟩, q3, h4⟩
          rw [shTL_map, List.getElem?_map, Option.map_eq_some_iff] at hd
          obtain ⟨d0, hd, rfl⟩ := hd
          have hmem := List.mem_of_getElem? hd
          exact rE (fun i hi => hid' _ hm i (mem_idsL hmem hi)) (fun k hk => hdt' _ hm k (mem_tksL hmem hk)) (e3 j d0 v hd hv)
        | none =>
          rw [hcx] at hl
          simp only [Option.map_none] at hl
          split at hl
          · cases hl
          · rename_i hni
            obtain ⟨g, h1, ⟨vs, e, e1, e2, e3⟩, h3, h4⟩ := hW.boxes id cs hl
            obtain ⟨q1, q2⟩ := oldB hni h1
            refine ⟨g, h1, ⟨vs, e, by rw [q1]; exact e1, e2, fun j d v hd hv => ?_⟩, by show G'.lim g = 0; rw [q2]; exact h3, h4⟩
            exact rG (fun k hk => clean_box hc hl (List.mem_of_getElem? hd) hk) (e3 j d v hd hv)
      robs := fun id cs hl => by
        obtain ⟨g, h1, ⟨vs, e, e1, e2, e3⟩, h3, h4⟩ := hW.robs id cs hl
        have hnotcx : id ∉ cx.map (·.1) := fun hin => by
          obtain ⟨p, hp, rfl⟩ := List.mem_map.1 hin
          obtain ⟨g0, q1, _, _, q4⟩ := hW.boxes p.1 p.2 (hb p hp)
          rw [h1] at q1
          obtain rfl := Option.some.inj q1
          rcases q4 with q4 | q4
          · omega
          · exact h4 q4
        obtain ⟨q1, q2⟩ := oldB hnotcx h1
        exact ⟨g, h1, ⟨vs, e, by rw [q1]; exact e1, e2, fun j d v hd hv => rG (fun k hk => clean_ro hc hl (List.mem_of_getElem? hd) hk) (e3 j d v hd hv)⟩, h3, h4⟩
      toks := fun k hk => by
        simp only [LS.after, List.mem_append, List.mem_map, List.mem_filter] at hk
        rcases hk with ⟨k0, hk0, rfl⟩ | ⟨hk1, hk2⟩
        · obtain ⟨x, hx⟩ := hE.toks k0 hk0
          exact ⟨x, by simp only [G2]; rw [if_pos (inOff hk0), if_pos (by simpa using hk0)]; simpa using hx⟩
        · obtain ⟨x, hx⟩ := hW.toks k hk1
          simp only [Bool.and_eq_true, Bool.not_eq_true', List.contains_eq_mem, decide_eq_false_iff_not] at hk2
          exact ⟨x, by simp only [G2]; rw [if_neg (by simp [hk2.2]), if_neg hk2.1]; exact hx⟩
      tau := fun k g e z hk => by
        by_cases hin : inTok off k = true
        · obtain ⟨h1, _, _⟩ := newT hin hk
          obtain ⟨q1, q2, q3, q4⟩ := hE.tau _ g e z h1
          rcases newTb hin hk with hb' | ⟨k0, hk0, e0, z0, h0⟩
          · exact ⟨.inl (Nat.le_trans hW.sz hb'), q2, q3, fun i hi => by have := hW.blt _ _ hi; omega⟩
          · obtain ⟨p1, _, _, p4⟩ := hW.tau k0 g e0 z0 h0
            exact ⟨p1, q2, q3, p4⟩
        · obtain ⟨hk0, hg⟩ := oldTok (by simpa using hin) hk
          obtain ⟨q1, q2, ⟨cur, q3, q4⟩, q5⟩ := hW.tau k g e z hg
          obtain ⟨p1, p2⟩ := oldT hk0 hg
          exact ⟨q1, q2, ⟨cur, by rw [p1]; exact q3, by show G'.lim g ≤ _; rw [p2]; exact q4⟩, q5⟩
      tinj := fun k k' g e z e' z' hk hk' => by
        by_cases hin : inTok off k = true <;> by_cases hin' : inTok off k' = true
        · obtain ⟨h1, _, h3⟩ := newT hin hk
          obtain ⟨h1', _, h3'⟩ := newT hin' hk'
          have := hE.tinj _ _ g e z e' z' h1 h1'
          omega
        · obtain ⟨hk0, hg⟩ := oldTok (by simpa using hin') hk'
          obtain ⟨_, _, ⟨cur, hc', _⟩, _⟩ := hW.tau k' g e' z' hg
          rcases newTb hin hk with hb' | ⟨k0, hkk, e0, z0, h0⟩
          · have := heap_lt hc'; omega
          · exact absurd (hW.tinj k' k0 g e' z' e0 z0 hg h0 ▸ hkk) hk0
        · obtain ⟨hk0, hg⟩ := oldTok (by simpa using hin) hk
          obtain ⟨_, _, ⟨cur, hc', _⟩, _⟩ := hW.tau k g e z hg
          rcases newTb hin' hk' with hb' | ⟨k0, hkk, e0, z0, h0⟩
          · have := heap_lt hc'; omega
          · exact absurd (hW.tinj k k0 g e z e0 z0 hg h0 ▸ hkk) hk0
        · exact hW.tinj k k' g e z e' z' (oldTok (by simpa using hin) hk).2 (oldTok (by simpa using hin') hk').2
      binj := hW.binj
      blt := fun i g hg => Nat.lt_of_lt_of_le (hW.blt i g hg) hE.sz
      lablt := hE.lablt
      old := fun b hlt' hab => by
        obtain ⟨h1, h2⟩ := hW.old b hlt' hab
        obtain ⟨h3, h4⟩ := hE.old b (Nat.lt_of_lt_of_le hlt' hW.sz) (hnab (fun p hp hpg => by
          obtain ⟨g0, q1, _, _, q4⟩ := hW.boxes p.1 p.2 (hb p hp)
          rw [hpg] at q1
          obtain rfl := Option.some.inj q1
          rcases q4 with q4 | q4
          · omega
          · exact hab q4) (fun k _ e z hkg => by
          rcases (hW.tau k b e z hkg).1 with q4 | q4
          · omega
          · exact hab q4))
        exact ⟨h3.trans h1, h4.trans h2⟩
      olda := fun b hlt' => by
        obtain ⟨h1, h2⟩ := hW.olda b hlt'
        obtain ⟨h3, h4⟩ := hE.olda b (Nat.lt_of_lt_of_le hlt' hW.sz)
        exact ⟨Nat.le_trans h1 h3, fun o v ho hc => h4 o v (Nat.lt_of_lt_of_le ho h1) (h2 o v ho hc)⟩
      oldl := fun b hlt' hb' => by
        have h1 := hW.oldl b hlt' hb'
        have := hE.oldl b (Nat.lt_of_lt_of_le hlt' hW.sz) (show G.lab b ≠ [] by rw [h1]; exact hb')
        exact this.trans h1
      tlab := fun k g e z hk => by
        by_cases hin : inTok off k = true
        · exact hE.tlab _ g e z (newT hin hk).1
        · obtain ⟨hk0, hg⟩ := oldTok (by simpa using hin) hk
          obtain ⟨_, _, ⟨cur, hc', _⟩, hne⟩ := hW.tau k g e z hg
          exact hE.oldu g (heap_lt hc') (hnab (fun p _ => hne p.1) (fun k' hk' e' z' hg' => hk0 (by rw [hW.tinj k k' g e z e' z' hg hg']; exact hk'))) (hW.tlab k g e z hg)
      blab := fun i g hg => by
        by_cases hi : i ∈ cx.map (·.1)
        · obtain ⟨p, hp, rfl⟩ := List.mem_map.1 hi
          exact hE.blab p.1 g (hE.ids (p.1, g) (by
            simp only [baseOf, List.mem_filterMap]
            exact ⟨p, hp, by
              have : G1.β p.1 = some g := hg
              simp [this]⟩))
        · exact hE.oldu g (hW.blt _ _ hg) (hnab (fun p hp hpg => hi (List.mem_map.2 ⟨p, hp, hW.binj _ _ _ hpg hg⟩)) (fun k hk e z hkg => (hW.tau k g e z hkg).2.2.2 i hg)) (hW.blab i g hg)
      oldu := fun b hlt' hab h0 => hE.oldu b (Nat.lt_of_lt_of_le hlt' hW.sz) (hnab (fun p hp hpg => by
          obtain ⟨g0, q1, _, _, q4⟩ := hW.boxes p.1 p.2 (hb p hp)
          rw [hpg] at q1
          obtain rfl := Option.some.inj q1
          rcases q4 with q4 | q4
          · omega
          · exact hab q4) (fun k _ e z hkg => by
          rcases (hW.tau k b e z hkg).1 with q4 | q4
          · omega
          · exact hab q4)) (hW.oldu b hlt' hab h0)
      labw := fun b hb0 hor => by
        by_cases hlt' : b < w.heap.size
        · by_cases hab : (baseOf G1 w cx tk0).ab b
          · exact hE.labw b hb0 (.inr hab)
          · have hne : G.lab b ≠ [] := fun e => hb0 (hE.oldu b hlt' hab e)
            obtain ⟨vs, e, h1⟩ := hW.labw b hne hor
            exact ⟨vs, e, by rw [(hE.old b hlt' hab).1]; exact h1⟩
        · exact hE.labw b hb0 (.inl (Nat.not_lt.1 hlt'))
      ids := hW.ids
      sz := Nat.le_trans hW.sz hE.sz
      os := hE.os.trans hW.os
      tape := hE.tape.trans hW.tape
      out := hE.out.trans hW.out }
  · obtain ⟨v', h1, h2⟩ := hend.env 0 d (by simp [look])
    obtain rfl : v = v' := by simpa using h1
    exact rE hid hdt h2
end Go.Lg
