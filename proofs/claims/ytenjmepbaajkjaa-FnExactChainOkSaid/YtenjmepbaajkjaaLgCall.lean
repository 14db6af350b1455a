/-
  Lg, part 3: a call of a function that has a contract.
-/
import Derived.Test.YtenjmepbaajkjaaLgSim
namespace Go.Lg
open Go Go.RowKit

theorem cell_lt {w : World} {b o : Nat} {v : Value} (h : w.cell? ⟨b, o, none⟩ = some v) : b < w.heap.size := World.block_lt_of_cell? w ⟨b, o, none⟩ h
theorem cell_of_heap {w w' : World} {b o : Nat} (h : w'.heap[b]? = w.heap[b]?) : w'.cell? ⟨b, o, none⟩ = w.cell? ⟨b, o, none⟩ := World.cell?_of_block (w := w) (a := ⟨b, o, none⟩) h
theorem shape_of_heap {w w' : World} {b : Nat} (h : w'.heap[b]? = w.heap[b]?) : w'.shape? b = w.shape? b := by simp [World.shape?, h]

theorem heap_lt {w : World} {g : Nat} {o : Obj} (h : w.heap[g]? = some o) : g < w.heap.size := (Array.getElem?_eq_some_iff.1 h).1

mutual
def D.shT (off : Nat) : D → D
  | .sl (.own k e z) xs => .sl (.own (k + off) e z) xs
  | .agg cs => .agg (D.shTL off cs)
  | .fn f cap => .fn f (D.shTL off cap)
  | .tup ds => .tup (D.shTL off ds)
  | d => d
def D.shTL (off : Nat) : List D → List D
  | [] => []
  | d :: ds => d.shT off :: D.shTL off ds
end
theorem shTL_map (off : Nat) (ds : List D) : D.shTL off ds = ds.map (D.shT off) := by
  induction ds with
  | nil => rfl
  | cons d ds ih => simp [D.shTL, ih]

/-- The same reading under other names of boxes and tokens. -/
theorem Rel.shift {G G' : Ghost} {w : World} (hl : G'.lim = G.lim) (hb : G'.lab = G.lab) (off : Nat) {d : D} {v : Value} (h : Rel G w d v) :
    (∀ i ∈ d.ids, ∀ g, G.β i = some g → G'.β i = some g) → (∀ k ∈ d.tks, G'.τ (k + off) = G.τ k) → Rel G' w (d.shT off) v := by
  have hm : Mono G G' w w := ⟨fun b o v h1 h2 => ⟨by rw [hl]; exact h1, h2⟩, fun b _ => by rw [hb]⟩
  induction h with
  | int => exact fun _ _ => .int
  | bool => exact fun _ _ => .bool
  | str => exact fun _ _ => .str
  | @sl tk xs A n c b o s hn hc hmx ht hA hu hk hst hr ih =>
    intro hi hkk
    have key : ∀ tk', (TkOk G' w tk' xs A n c) → Rel G' w (.sl tk' xs) (.slice A n c) := fun tk' ht' => by
      refine .sl (b := b) (o := o) hn hc hmx ht' hA hu hk (fun j d hj => ?_) (fun j d v hj hv => ?_)
      · rw [hl]; exact hst j d hj
      · have hmem := hk d (List.mem_of_getElem? hj)
        exact (hr j d v hj hv).mono hm (by rw [memOk_ids hmem]; simp) (by rw [memOk_tks hmem]; simp)
    cases tk with
    | own k e z =>
      refine key (.own (k + off) e z) ?_
      simp only [TkOk] at ht ⊢
      rw [hkk k (by simp [D.tks]), hl]
      exact ht
    | lab l =>
      refine key (.lab l) ?_
      rcases ht with ht | ⟨g, o', e1, e2, e3⟩
      · exact .inl ht
      · exact .inr ⟨g, o', e1, by rw [hb]; exact e2, e3⟩
    | _ => exact key _ ht
  | @agg cs vl hlen hr ih =>
    intro hi hk
    simp only [D.shT, shTL_map]
    refine .agg (by simpa using hlen) fun j d v hj hv => ?_
    simp only [List.getElem?_map, Option.map_eq_some_iff] at hj
    obtain ⟨d0, hj, rfl⟩ := hj
    exact ih j d0 v hj hv (fun i hi' => hi i (mem_idsL (List.mem_of_getElem? hj) hi')) (fun i hi' => hk i (mem_tksL (List.mem_of_getElem? hj) hi'))
  | @fn f cap vl hlen hr ih =>
    intro hi hk
    simp only [D.shT, shTL_map]
    refine .fn (by simpa using hlen) fun j d v hj hv => ?_
    simp only [List.getElem?_map, Option.map_eq_some_iff] at hj
    obtain ⟨d0, hj, rfl⟩ := hj
    exact ih j d0 v hj hv (fun i hi' => hi i (mem_idsL (List.mem_of_getElem? hj) hi')) (fun i hi' => hk i (mem_tksL (List.mem_of_getElem? hj) hi'))
  | box hb' => exact fun hi _ => .box (hi _ (by simp [D.ids]) _ hb')
  | ms hb' hc hn => exact fun hi _ => .ms (hi _ (by simp [D.ids]) _ hb') hc hn
  | @imm cs b o hk hst hr ih =>
    intro _ _
    refine .imm hk (fun j d hj => ?_) (fun j d v hj hv => ?_)
    · rw [hl]; exact hst j d hj
    · have hmem := hk d (List.mem_of_getElem? hj)
      exact (hr j d v hj hv).mono hm (by rw [memOk_ids hmem]; simp) (by rw [memOk_tks hmem]; simp)
  | @tup ds vl hlen hr ih =>
    intro hi hk
    simp only [D.shT, shTL_map]
    refine .tup (by simpa using hlen) fun j d v hj hv => ?_
    simp only [List.getElem?_map, Option.map_eq_some_iff] at hj
    obtain ⟨d0, hj, rfl⟩ := hj
    exact ih j d0 v hj hv (fun i hi' => hi i (mem_idsL (List.mem_of_getElem? hj) hi')) (fun i hi' => hk i (mem_tksL (List.mem_of_getElem? hj) hi'))
  | raw h => exact fun _ _ => .raw h
  | pred hv h => exact fun _ _ => .pred hv fun G2 w2 hm2 => h G2 w2 (hm.trans hm2)

/-- Tokens of a range are struck. -/
def D.pu1 (p : Nat → Bool) : D → D
  | .sl (.own k e z) xs => if p k then .sl .any xs else .sl (.own k e z) xs
  | d => d
def D.pu (p : Nat → Bool) : D → D
  | .agg cs => .agg (cs.map (D.pu1 p))
  | .tup cs => .tup (cs.map (D.pu1 p))
  | d => d.pu1 p
/-- After 'pu' no token of the range is left (nested aggregates do not occur). -/
def D.puOk (p : Nat → Bool) (d : D) : Bool := (d.pu p).tks.all fun k => !p k

theorem D.le_pu1 (p : Nat → Bool) (d : D) : D.le d (d.pu1 p) := by
  cases d with
  | sl tk xs => cases tk <;> first | exact .refl _ | (simp only [D.pu1]; split <;> first | exact .any | exact .refl _)
  | _ => exact .refl _
theorem D.le_pu (p : Nat → Bool) (d : D) : D.le d (d.pu p) := by
  cases d with
  | agg cs =>
    refine .agg (by simp) fun j c d hc hd => ?_
    simp only [List.getElem?_map, hc, Option.map_some, Option.some.injEq] at hd
    subst hd; exact D.le_pu1 p c
  | tup cs =>
    refine .tup (by simp) fun j c d hc hd => ?_
    simp only [List.getElem?_map, hc, Option.map_some, Option.some.injEq] at hd
    subst hd; exact D.le_pu1 p c
  | sl tk xs => exact D.le_pu1 p _
  | _ => exact .refl _

def mapA {α β : Type} (f : α → β) : List (Nat × α) → List (Nat × β)
  | [] => []
  | (k, x) :: r => (k, f x) :: mapA f r
theorem look_mapA {α β : Type} (f : α → β) (l : List (Nat × α)) (t : Nat) : look (mapA f l) t = (look l t).map f := by
  induction l with
  | nil => rfl
  | cons p r ih =>
    obtain ⟨k, x⟩ := p
    by_cases h : k = t <;> simp [mapA, look, h, ih]
def filA {α : Type} (f : α → Bool) : List (Nat × α) → List (Nat × α)
  | [] => []
  | (k, x) :: r => if f x then (k, x) :: filA f r else filA f r
theorem mem_filA {α : Type} {f : α → Bool} {l : List (Nat × α)} {p : Nat × α} : p ∈ filA f l ↔ p ∈ l ∧ f p.2 = true := by
  induction l with
  | nil => simp [filA]
  | cons q r ih =>
    obtain ⟨k, x⟩ := q
    by_cases h : f x = true
    · simp only [filA, h, if_true, List.mem_cons, ih]
      constructor
      · rintro (rfl | h1)
        · exact ⟨.inl rfl, h⟩
        · exact ⟨.inr h1.1, h1.2⟩
      · rintro ⟨rfl | h1, h2⟩
        · exact .inl rfl
        · exact .inr ⟨h1, h2⟩
    · simp only [filA]
      rw [if_neg h, ih, List.mem_cons]
      constructor
      · rintro h1
        exact ⟨.inr h1.1, h1.2⟩
      · rintro ⟨rfl | h1, h2⟩
        · exact absurd h2 h
        · exact ⟨h1, h2⟩
/-- the keys are pairwise different (a closed fact of each state) -/
def keysOk {α : Type} : List (Nat × α) → Bool
  | [] => true
  | (k, _) :: r => (look r k).isNone && keysOk r

def inTok (off k : Nat) : Bool := decide (off ≤ k) && decide (k < off + 1000)

/-- Old memory stands as it is, and so do the names. -/
structure Quiet (G G' : Ghost) (w w' : World) : Prop where
  heap : ∀ b, b < w.heap.size → w'.heap[b]? = w.heap[b]? ∧ G'.lim b = G.lim b ∧ G'.lab b = G.lab b
  beta : G'.β = G.β
  tau : G'.τ = G.τ
  sz : w.heap.size ≤ w'.heap.size
theorem Quiet.refl (G : Ghost) (w : World) : Quiet G G w w := ⟨fun _ _ => ⟨rfl, rfl, rfl⟩, rfl, rfl, Nat.le_refl _⟩
/-- A call that reads boxes alone, as it ends. -/
theorem callE_sound {S : Setup} {B : Base} {L : LS} {G : Ghost} {a : Act} {w : World} (h : Sim B L G a w) {f : FuncId} {cx : List (Nat × List D)} {ds : List D} {d : D} {vals : Array Value}
    (hv : vals.size = ds.length) (hr : ∀ (j : Nat) d v, ds[j]? = some d → vals[j]? = some v → Rel G w d v) (hb : ∀ p ∈ cx, L.getBox p.1 = some p.2)
    {tk' : List Nat} (fc : FC S f cx [] [] ds d [] tk') :
    Calls S.P f vals w fun e w' => ∃ v G', e = .returned v ∧ Sim B L { G' with β := G.β, τ := G.τ } a w' ∧ Quiet G { G' with β := G.β, τ := G.τ } w w' ∧ ∃ w0, Sim (baseOf { G with τ := fun _ => none } w [] []) ⟨1, [(0, d)], [], [], tk', w0⟩ G' ⟨#[v], []⟩ w' := by
  have hW := h.W
  let G1 : Ghost := { G with τ := fun _ => none }
  have hm1 : Mono G G1 w w := ⟨fun _ _ _ h1 h2 => ⟨h1, h2⟩, fun _ _ => rfl⟩
  have r1 : ∀ {d v}, Rel G w d v → Rel G1 w d v := fun hr => hr.mono hm1 (fun _ _ _ h => h) (fun _ _ => .inl rfl)
  have hstart : Sim (baseOf G1 w [] []) ⟨ds.length, enumD 0 ds, [], cx, [], []⟩ G1 ⟨vals, []⟩ w := by
    refine ⟨rfl, hv, fun t d hd => ?_, ?_, fun p hp => by cases hp⟩
    · rw [look_enumD] at hd
      simp only [Nat.zero_le, if_true, Nat.sub_zero] at hd
      have hlt : t < vals.size := by rw [hv]; exact (List.getElem?_eq_some_iff.1 hd).1
      exact ⟨vals[t], by simp [hlt], r1 (hr t d _ hd (by simp [hlt]))⟩
    · exact {
        boxes := fun id cs hl => by cases hl
        robs := fun id cs hl => by
          have hgb : L.getBox id = some cs := hb _ (mem_of_look hl)
          have hx : ∃ g, G.β id = some g ∧ BoxAt G w g cs := by
            unfold LS.getBox at hgb
            split at hgb
            · rename_i c hc
              obtain rfl : c = cs := by simpa using hgb
              obtain ⟨g, h1, h2, _⟩ := hW.boxes id c hc
              exact ⟨g, h1, h2⟩
            · obtain ⟨g, h1, h2, _⟩ := hW.robs id cs hgb
              exact ⟨g, h1, h2⟩
          obtain ⟨g, h1, vs, e, e1, e2, e3⟩ := hx
          refine ⟨g, h1, ⟨vs, e, e1, e2, fun j d v hd hv => r1 (e3 j d v hd hv)⟩, heap_lt e1, ?_⟩
          rintro (⟨p, hp, _⟩ | ⟨k, hk, _⟩)
          · cases hp
          · cases hk
        toks := fun k hk => by cases hk
        tau := fun k g e z hk => by cases hk
        tinj := fun k k' g e z e' z' hk => by cases hk
        binj := hW.binj
        blt := hW.blt
        lablt := hW.lablt
        old := fun _ _ _ => ⟨rfl, rfl⟩
        olda := fun _ _ => ⟨Nat.le_refl _, fun _ _ _ h => h⟩
        oldl := fun _ _ _ => rfl
        tlab := fun k g e z hk => by cases hk
        blab := hW.blab
        oldu := fun _ _ _ h => h
        labw := fun b hb hor => by
          rcases hor with hor | (⟨p, hp, _⟩ | ⟨k, hk, _⟩)
          · exact absurd (hW.lablt b hb) (Nat.not_lt.2 hor)
          · cases hp
          · cases hk
        ids := fun p hp => by cases hp
        sz := Nat.le_refl _
        os := rfl
        tape := rfl
        out := rfl }
  refine (fc.2 w G1 vals hstart).mono ?_
  rintro e w' ⟨v, G', he, hend⟩
  have hE := hend.W
  have hall : ∀ b, b < w.heap.size → w'.heap[b]? = w.heap[b]? ∧ G'.lim b = G.lim b := fun b hlt => hE.old b hlt (by
      rintro (⟨p, hp, _⟩ | ⟨k, hk, _⟩)
      · cases hp
      · cases hk)
  have hun : ∀ b, b < w.heap.size → G.lab b = [] → G'.lab b = [] := fun b hlt h0 => hE.oldu b hlt (by
      rintro (⟨p, hp, _⟩ | ⟨k, hk, _⟩)
      · cases hp
      · cases hk) h0
  let G2 : Ghost := { G' with β := G.β, τ := G.τ }
  have hmn : Mono G G2 w w' := by
    refine ⟨fun b o v h1 h2 => ?_, fun b hb => hE.oldl b (hW.lablt b hb) hb⟩
    obtain ⟨h3, h4⟩ := hall b (cell_lt h2)
    exact ⟨by show o < G'.lim b; rw [h4]; exact h1, by rw [cell_of_heap h3]; exact h2⟩
  have htl : ∀ {k g e z}, G.τ k = some (some (g, e, z)) → g < w.heap.size := fun {k g e z} hk => by
    obtain ⟨_, _, ⟨cur, hc, _⟩, _⟩ := hW.tau k g e z hk
    exact heap_lt hc
  have rG : ∀ {d v}, Rel G w d v → Rel G2 w' d v := fun hr =>
    hr.mono hmn (fun _ _ _ h => h) (fun k _ => .inr ⟨rfl, fun g e z hk => ⟨(hall g (htl hk)).2, shape_of_heap (hall g (htl hk)).1⟩⟩)
  have hbox : ∀ {g cs}, BoxAt G w g cs → BoxAt G2 w' g cs := fun ⟨vs, e, e1, e2, e3⟩ =>
    ⟨vs, e, by rw [(hall _ (heap_lt e1)).1]; exact e1, e2, fun j d v hd hv => rG (e3 j d v hd hv)⟩
  refine ⟨v, G', he, ⟨h.defers, h.size, fun t d hd => ?_, ?_, h.fixed⟩, ?_, _, hend⟩
  · obtain ⟨v, h1, h2⟩ := h.env t d hd
    exact ⟨v, h1, rG h2⟩
  · exact {
      boxes := fun id cs hl => by
        obtain ⟨g, h1, h2, h3, h4⟩ := hW.boxes id cs hl
        exact ⟨g, h1, hbox h2, by show G'.lim g = 0; rw [(hall g (hW.blt _ _ h1)).2]; exact h3, h4⟩
      robs := fun id cs hl => by
        obtain ⟨g, h1, h2, h3, h4⟩ := hW.robs id cs hl
        exact ⟨g, h1, hbox h2, h3, h4⟩
      toks := hW.toks
      tau := fun k g e z hk => by
        obtain ⟨h1, h2, ⟨cur, h3, h4⟩, h5⟩ := hW.tau k g e z hk
        exact ⟨h1, h2, ⟨cur, by rw [(hall g (htl hk)).1]; exact h3, by show G'.lim g ≤ _; rw [(hall g (htl hk)).2]; exact h4⟩, h5⟩
      tinj := hW.tinj
      binj := hW.binj
      blt := fun i g hg => Nat.lt_of_lt_of_le (hW.blt i g hg) hE.sz
      lablt := hE.lablt
      old := fun b hlt hab => by
        obtain ⟨h1, h2⟩ := hW.old b hlt hab
        obtain ⟨h3, h4⟩ := hall b (Nat.lt_of_lt_of_le hlt hW.sz)
        exact ⟨h3.trans h1, h4.trans h2⟩
      olda := fun b hlt => by
        obtain ⟨h1, h2⟩ := hW.olda b hlt
        obtain ⟨h3, h4⟩ := hall b (Nat.lt_of_lt_of_le hlt hW.sz)
        exact ⟨by show _ ≤ G'.lim b; rw [h4]; exact h1, fun o v ho hc => by rw [cell_of_heap h3]; exact h2 o v ho hc⟩
      oldl := fun b hlt hb => by
        have h1 := hW.oldl b hlt hb
        have := hE.oldl b (Nat.lt_of_lt_of_le hlt hW.sz) (show G.lab b ≠ [] by rw [h1]; exact hb)
        exact this.trans h1
      tlab := fun k g e z hk => hun g (htl hk) (hW.tlab k g e z hk)
      blab := fun i g hg => hun g (hW.blt i g hg) (hW.blab i g hg)
      oldu := fun b hlt hab hb => hun b (Nat.lt_of_lt_of_le hlt hW.sz) (hW.oldu b hlt hab hb)
      labw := fun b hb hor => by
        by_cases hlt : b < w.heap.size
        · have hne : G.lab b ≠ [] := fun e => hb (hun b hlt e)
          obtain ⟨vs, e, h1⟩ := hW.labw b hne hor
          exact ⟨vs, e, by rw [(hall b hlt).1]; exact h1⟩
        · exact hE.labw b hb (.inl (Nat.not_lt.1 hlt))
      ids := hW.ids
      sz := Nat.le_trans hW.sz hE.sz
      os := hE.os.trans hW.os
      tape := hE.tape.trans hW.tape
      out := hE.out.trans hW.out }
  · refine ⟨fun b hlt => ⟨(hall b hlt).1, (hall b hlt).2, ?_⟩, rfl, rfl, hE.sz⟩
    show G'.lab b = G.lab b
    by_cases h0 : G.lab b = []
    · rw [h0]; exact hun b hlt h0
    · exact hE.oldl b hlt h0

/-- A quiet call: boxes are read alone, nothing is handed over. -/
theorem callq_sound {S : Setup} {B : Base} {L : LS} {G : Ghost} {a : Act} {w : World} (h : Sim B L G a w) {f : FuncId} {cx : List (Nat × List D)} {ds : List D} {d : D} {vals : Array Value}
    (hv : vals.size = ds.length) (hr : ∀ (j : Nat) d v, ds[j]? = some d → vals[j]? = some v → Rel G w d v) (hb : ∀ p ∈ cx, L.getBox p.1 = some p.2)
    (fc : FC S f cx [] [] ds d [] []) (hid : d.ids = []) (htk : d.tks = []) :
    Calls S.P f vals w fun e w' => ∃ v G', e = .returned v ∧ Sim B L G' a w' ∧ Rel G' w' d v ∧ Quiet G G' w w' := (callE_sound h hv hr hb fc).mono fun e w' ⟨v, G', he, h1, h2, _, hend⟩ => by
  refine ⟨v, _, he, h1, ?_, h2⟩
  obtain ⟨v', h3, h4⟩ := hend.env 0 d (by simp [look])
  obtain rfl : v = v' := by simpa using h3
  exact h4.mono (show Mono G' { G' with β := G.β, τ := G.τ } w' w' from ⟨fun _ _ _ h1 h2 => ⟨h1, h2⟩, fun _ _ => rfl⟩) (by rw [hid]; intro i hi; cases hi) (by rw [htk]; intro i hi; cases hi)
end Go.Lg
