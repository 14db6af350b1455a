/-
  Lg: LgRng, one behind the other.
-/
import Derived.Test.YtlcdahaihlflaaaLgK14
import Derived.RangeFuncNested
/-
  Lg: a range over a function.
-/
namespace Go.Lg
open Go Go.RowKit
/-- a region's operations go in a round as elsewhere -/
theorem wpListR {P : Program} {ops : Array Oper} {r n : Nat} {Q : Exit → Act → World → Prop} (hno : ¬ LetsOut Q) : ∀ (l : List Oper) (a : Act) (w : World), (∀ o ∈ l, ∀ c, o.op ≠ .defer c) → wpList P ops Q l a w → wpListIn (Fence.wide.inRound r) n P ops Q l a w
  | [], _, _, _, h => h
  | o :: l, a, w, hd, h => by
    have ih := wpListR (P := P) (ops := ops) (r := r) (n := n) hno l
    have ih' := fun a w => ih a w fun o ho => hd o (List.mem_cons_of_mem _ ho)
    unfold wpList at h
    unfold wpListIn
    split at h
    · rename_i hw
      rw [if_pos hw]
      rcases h with h | ⟨_, h⟩
      · refine ⟨fun _ _ => trivial, ?_⟩
        rw [Fence.inRound_round, Oper.semAt_some r _ _ (hd o List.mem_cons_self)]
        unfold Oper.wp at h
        generalize (execOp a.eval o).run P w = q at h ⊢
        unfold Oper.upon at h
        unfold Oper.uponIn
        split at h
        · exact ih' _ _ h
        · exact ih' _ _ h
        · exact ih' _ _ h
        · refine ⟨(fun hh => by cases hh), CallsIn.inRound r (callsIn_wide.2 (Calls.mono h fun e w2 hR => ?_))⟩
          cases e with
          | returned v => exact ih' _ _ hR
          | panicked c => exact hR
          | outgrown => exact hR
        · refine ⟨(fun hh => by cases hh), fun c cs _ => ?_⟩
          obtain ⟨v, w2, hR, hs⟩ := h c cs
          exact ⟨v, w2, ih' _ _ hR, stepsIn_wide.2 hs⟩
        · exact h
        · exact h.elim
      · exact absurd h hno
    · rename_i hw
      rw [if_neg hw]
      exact ⟨fun _ _ => trivial, ih' _ _ h⟩
theorem regR {S : Setup} {B : Base} {L L2 : LS} {G : Ghost} {a : Act} {w : World} {id r n : Nat} {l : List Oper} {Q : Exit → Act → World → Prop} (hs : Sim B L G a w) (hno : ∀ a w, ¬ Q .outgrown a w) (hd : ∀ o ∈ l, ∀ c, o.op ≠ .defer c) (h : LopsW S B l.toArray l L fun L' => L'.covers L2)
    (hQ : ∀ G' a' w', Sim B L2 G' a' w' → Q .normal a' w') : (Code.region id l.toArray false).wpIn (Fence.wide.inRound r) n S.P Q a w :=
  wpIn_region_lit (wpListR (fun ⟨_, _, h⟩ => hno _ _ h) _ _ _ hd (by simpa using h G a w hs Q fun L' G' a' w' hc hs' => hQ G' a' w' (hs'.less hc)))
/-- an iterator that makes nothing: what it hands over, round by round; what it reads meanwhile -/
def IterOk (P : Program) (gf : Nat) (lb : Array Value) (n : Nat) (enc : Nat → Array Value) (Fa : World → Prop) : Prop :=
  ∀ (m l : Nat) (J : Nat → World → Prop) (W : World), (∀ i W, J i W → Fa W) → (∀ m i W, i < n → J i W → YieldAt Fence.wide m P l (enc i) W fun e W' => e = .returned (.bool true) ∧ J (i + 1) W') → J 0 W →
    CallsIn Fence.wide m P gf (#[.func (.yield l) #[] #[]] ++ lb) W fun e W' => (∃ v, e = .returned v) ∧ J n W'
/-- how a round may end -/
def rndQ (J : World → Prop) : Exit → Act → World → Prop
  | .normal, _, w => J w
  | _, _, _ => False
/-- the statement -/
theorem rng_wp {P : Program} {g : Operand} {ps : Array Tmp} {assign body : Code} {Q : Exit → Act → World → Prop} {a : Act} {w : World} {gf : Nat} {lb : Array Value} {n m : Nat} {enc : Nat → Array Value} {Fa : World → Prop}
    (hg : a.eval g = .func (.func gf) #[] lb) (eg : ∀ args w, (callFunc gf args).run P w = .ok (.enter gf args) w) (hps : ∀ i, (enc i).size = ps.size) (hit : IterOk P gf lb n enc Fa)
    (J : Nat → World → Prop) (hFa : ∀ i W, J i W → Fa W) (hA : ∀ i W o, J i W → o.isCells = false → J i (W.alloc o)) (hP : ∀ i W l o o', J i W → w.heap.size ≤ l → W.heap[l]? = some o → o.isCells = false → J i (W.putObj l o')) (h0 : J 0 w)
    (hround : ∀ (l i : Nat) (W : World), i < n → J i W → assign.wpIn (Fence.wide.inRound l) m P (Exit.then (fun a₁ w₁ => KeepsOthers W w₁ ∧
      ∀ w₂, (∃ o o', w₁.heap[l]? = some o ∧ o.isCells = false ∧ w.heap.size ≤ l ∧ w₂ = w₁.putObj l o') → body.wpIn (Fence.wide.inRound l) m P (rndQ fun w₃ => KeepsOthers w₂ w₃ ∧ J (i + 1) w₃) a₁ w₂) (fun _ _ _ => False))
      { tmps := (ps.zip (enc i)).foldl (fun t (p, v) => t.setIfInBounds p v) a.tmps, defers := [] } W)
    (hdone : ∀ (D : Nat) (W : World), J n W → W.heap[D]? = some (.deferred (some [])) → w.heap.size ≤ D → Q .normal { a with defers := { target := .collected D, args := #[] } :: a.defers } W) :
    (Code.rangeFunc g ps assign body).wpIn Fence.wide m P Q a w := by
  refine wpIn_rangeFunc ?_
  intro fn hfn
  obtain ⟨rec, hrec⟩ : ∃ rec : LoopState → Option Code → Loop, rec = fun st pe => { state := st, pending := pe, fn, tmps := a.tmps, params := ps, assign, body, defers := w.heap.size } := ⟨_, rfl⟩
  obtain ⟨W1, hW1⟩ : ∃ W1, (w.alloc (.deferred (some []))).alloc (.loop (rec .ready none)) = W1 := ⟨_, rfl⟩
  have hL1 : W1.heap[w.heap.size + 1]? = some (.loop (rec .ready none)) := by
    rw [← hW1]; have := World.alloc_heap_new (w.alloc (.deferred (some []))) (.loop (rec .ready none)); rwa [World.size_alloc] at this
  have hK1 : W1.heap[w.heap.size]? = some (.deferred (some [])) := by
    rw [← hW1]; exact (Below.heap_alloc _ _ _ (by simp)).trans (World.alloc_heap_new w _)
  have hI1 : J 0 W1 := by rw [← hW1]; exact hA _ _ _ (hA _ _ _ h0 rfl) rfl
  refine ⟨w.heap.size + 1, [{ target := .collected w.heap.size, args := #[] }], W1, { target := .fn (.func gf) lb, args := #[.func (.yield (w.heap.size + 1)) #[] #[]] }, W1, gf,
    #[.func (.yield (w.heap.size + 1)) #[] #[]] ++ lb, W1, ?_, ?_, fun _ _ => trivial, ?_, fun h => (by cases h), ?_⟩
  · rw [← hW1, hrec]; exact run_enterLoop_outer _ _ _ _ _
  · simp only [resolve, hg]
    simp [go_sem]
  · simp [invoke, go_sem, eg]
  · refine (hit _ (w.heap.size + 1)
      (fun i W => J i W ∧ W.heap[w.heap.size + 1]? = some (.loop (rec .ready none)) ∧ W.heap[w.heap.size]? = some (.deferred (some [])))
      W1 (fun i W h => hFa i W h.1) ?_ ⟨hI1, hL1, hK1⟩).mono ?_
    · rintro m' i W hin ⟨hi, hl, hk⟩
      have hlt : w.heap.size + 1 < W.heap.size := (Array.getElem?_eq_some_iff.1 hl).1
      have hy := run_yield (P := P) (args := enc i) hl (by rw [hrec]; exact hps i)
      rw [hrec] at hy
      have hro : RoundIn Fence.wide m P (w.heap.size + 1) fn ((ps.zip (enc i)).foldl (fun t (p, v) => t.setIfInBounds p v) a.tmps) assign body W fun e W' => e = .returned (.bool true) ∧ J (i + 1) W' ∧ W'.heap[w.heap.size + 1]? = some (.loop (rec .ready none)) ∧ W'.heap[w.heap.size]? = some (.deferred (some [])) := by
        refine roundIn_of_wpIn hfn (wpIn_mono (hround _ i W hin hi) ?_)
        rintro e a1 w1 h
        cases e with
        | normal =>
          obtain ⟨hko, h⟩ := h
          have hl1 := hko.same _ _ hl rfl
          have hk1 := hko.same _ _ hk rfl
          refine ⟨_, run_beginRound hl1 (by rw [hrec]), ?_⟩
          refine wpIn_mono (h _ ⟨_, _, hl1, rfl, by omega, rfl⟩) ?_
          rintro e a3 w3 hp
          cases e with
          | normal =>
            obtain ⟨hk3, hj⟩ := hp
            have hlt1 := (Array.getElem?_eq_some_iff.1 hl1).1
            have hl2 : (w1.putObj (w.heap.size + 1) (.loop { rec .ready none with state := .busy })).heap[w.heap.size + 1]? = some (.loop { rec .ready none with state := .busy }) := World.putObj_heap_same hlt1
            have hk2 : (w1.putObj (w.heap.size + 1) (.loop { rec .ready none with state := .busy })).heap[w.heap.size]? = some (.deferred (some [])) := (World.putObj_heap_other (by omega)).trans hk1
            have hl3 := hk3.same _ _ hl2 rfl
            have hk4 := hk3.same _ _ hk2 rfl
            have hr := run_endRound (P := P) none hl3
            refine ⟨_, _, hr, rfl, hP _ _ _ _ _ hj (by omega) hl3 rfl, ?_, (World.putObj_heap_other (by omega)).trans hk4⟩
            rw [hrec]
            exact World.putObj_heap_same (Array.getElem?_eq_some_iff.1 hl3).1
          | _ => exact hp.elim
        | _ => exact h.elim
      exact ⟨fn, _, assign, body, hy, hro.1, fun c cs _ => hro.2 c cs (room_wide _)⟩
    · rintro e W2 ⟨⟨v, rfl⟩, hi, hl, hk⟩
      refine ⟨none, _, by have := run_endLoop (P := P) hl (by rw [hrec]; simp); rw [hrec] at this; exact this, hdone _ _ (hP _ _ _ _ _ hi (by omega) hl rfl) ((World.putObj_heap_other (by omega)).trans hk) (Nat.le_refl _)⟩
/-- the tokens that count -/
def Ghost.only (G : Ghost) (tk : List Nat) : Ghost := { G with τ := fun k => if k ∈ tk then G.τ k else none }
theorem rel_only {G : Ghost} {w : World} {d : D} {v : Value} (tk : List Nat) (h : Rel G w d v) : Rel (G.only tk) w d v :=
  h.mono (show Mono G (G.only tk) w w from ⟨fun _ _ _ h1 h2 => ⟨h1, h2⟩, fun _ _ => rfl⟩) (fun _ _ _ h => h) (fun k _ => by
    by_cases hk : k ∈ tk
    · exact .inr ⟨by simp [Ghost.only, hk], fun _ _ _ _ => ⟨rfl, rfl⟩⟩
    · exact .inl (by simp [Ghost.only, hk]))
theorem only_tau {G : Ghost} {tk : List Nat} {k : Nat} {x : Option (Nat × Nat × Nat)} (h : (G.only tk).τ k = some x) : k ∈ tk ∧ G.τ k = some x := by
  simp only [Ghost.only] at h
  split at h
  · rename_i hk; exact ⟨hk, h⟩
  · cases h
/-- where a round begins: a base of its own -/
theorem rnd_in {B : Base} {L : LS} {G : Ghost} {a : Act} {w : World} (h : Sim B L G a w) (hro : L.ro = []) : Sim (baseOf (G.only L.toks) w L.boxes L.toks) { L with fix := L.boxes.map (·.1) } (G.only L.toks) a w := by
  have hW := h.W
  refine ⟨h.defers, h.size, fun t d hd => let ⟨v, h1, h2⟩ := h.env t d hd; ⟨v, h1, rel_only _ h2⟩, ?_, fun p hp => ?_⟩
  · exact {
      boxes := fun id cs hl => by
        obtain ⟨g, h1, ⟨vs, e, e1, e2, e3⟩, h3, _⟩ := hW.boxes id cs hl
        exact ⟨g, h1, ⟨vs, e, e1, e2, fun j d v hd hv => rel_only _ (e3 j d v hd hv)⟩, h3, .inr (.inl ⟨_, mem_of_look hl, h1⟩)⟩
      robs := fun id cs hl => by
        simp only [hro] at hl
        cases hl
      toks := fun k hk => by
        obtain ⟨x, hx⟩ := hW.toks k hk
        exact ⟨x, by simp only [Ghost.only]; rw [if_pos hk]; exact hx⟩
      tau := fun k g e z hk => by
        obtain ⟨h1, h2⟩ := only_tau hk
        obtain ⟨_, q2, q3, q4⟩ := hW.tau k g e z h2
        exact ⟨.inr (.inr ⟨k, h1, e, z, hk⟩), q2, q3, q4⟩
      tinj := fun k k' g e z e' z' hk hk' => hW.tinj k k' g e z e' z' (only_tau hk).2 (only_tau hk').2
      binj := hW.binj
      blt := hW.blt
      lablt := hW.lablt
      old := fun _ _ _ => ⟨rfl, rfl⟩
      olda := fun _ _ => ⟨Nat.le_refl _, fun _ _ _ h => h⟩
      oldl := fun _ _ _ => rfl
      tlab := fun k g e z hk => hW.tlab k g e z (only_tau hk).2
      blab := hW.blab
      oldu := fun _ _ _ h => h
      labw := fun b hb hor => by
        rcases hor with hor | (⟨p, hp, hpg⟩ | ⟨k, hk, e, z, hg⟩)
        · exact absurd (hW.lablt b hb) (Nat.not_lt.2 hor)
        · exact absurd (hW.blab _ _ hpg) hb
        · exact absurd (hW.tlab k b e z (only_tau hg).2) hb
      ids := fun p hp => by
        simp only [baseOf, List.mem_filterMap, Option.map_eq_some_iff] at hp
        obtain ⟨q, _, g, hg, rfl⟩ := hp
        exact hg
      sz := Nat.le_refl _
      os := rfl
      tape := rfl
      out := rfl
      dr := Nat.le_refl _ }
  · simp only [baseOf, List.mem_filterMap, Option.map_eq_some_iff] at hp
    obtain ⟨q, hq, g, _, rfl⟩ := hp
    exact List.mem_map_of_mem hq
theorem look_memS {α : Type} {l : List (Nat × α)} {p : Nat × α} (h : p ∈ l) : ∃ x, look l p.1 = some x := by
  induction l with
  | nil => cases h
  | cons q r ih =>
    obtain ⟨k, y⟩ := q
    simp only [look]
    split
    · exact ⟨y, rfl⟩
    · rename_i hne
      rcases List.mem_cons.1 h with rfl | h
      · exact absurd rfl hne
      · exact ih h
/-- what a block is that the state does not own -/
def Free (L : LS) (G : Ghost) (b : Nat) : Prop := (∀ p ∈ L.boxes, G.β p.1 ≠ some b) ∧ ∀ k ∈ L.toks, ∀ e z, G.τ k ≠ some (some (b, e, z))
/-- .. and where it ends -/
theorem rnd_out {B : Base} {L L' : LS} {G G' : Ghost} {a a' : Act} {w w' : World} (h : Sim B L G a w) (hids : B.ids = []) (h' : Sim (baseOf (G.only L.toks) w L.boxes L.toks) L' G' a' w') :
    SimW B L'.boxes [] L'.toks G' w' ∧ KeepsOthers w w' ∧ Mono G G' w w' ∧ (∀ p ∈ L.boxes, G'.β p.1 = G.β p.1) ∧ ∀ b < w.heap.size, Free L G b → w'.heap[b]? = w.heap[b]? ∧ Free L' G' b := by
  have hW := h.W
  have hE := h'.W
  have hab : ∀ {b}, (baseOf (G.only L.toks) w L.boxes L.toks).ab b → (∃ p ∈ L.boxes, G.β p.1 = some b) ∨ ∃ k ∈ L.toks, ∃ e z, G.τ k = some (some (b, e, z)) := fun {b} hb => by
    rcases hb with ⟨p, hp, hg⟩ | ⟨k, hk, e, z, hg⟩
    · exact .inl ⟨p, hp, hg⟩
    · exact .inr ⟨k, hk, e, z, (only_tau hg).2⟩
  have habB : ∀ {b}, (baseOf (G.only L.toks) w L.boxes L.toks).ab b → (B.w.heap.size ≤ b ∨ B.ab b) ∧ ∃ vs e, w.heap[b]? = some (.cells vs e (0, 0)) := fun {b} hb => by
    rcases hab hb with ⟨p, hp, hg⟩ | ⟨k, hk, e, z, hg⟩
    · obtain ⟨cs, hcs⟩ := look_memS hp
      obtain ⟨g, h1, ⟨vs, e, e1, _⟩, _, h4⟩ := hW.boxes p.1 cs hcs
      rw [hg] at h1
      obtain rfl := Option.some.inj h1
      exact ⟨h4, vs, e, e1⟩
    · obtain ⟨h1, _, ⟨cur, h3, _⟩, _⟩ := hW.tau k b e z hg
      exact ⟨h1, cur, e, h3⟩
  have hsz : w.heap.size ≤ w'.heap.size := hE.sz
  have hor : ∀ {b}, w.heap.size ≤ b ∨ (baseOf (G.only L.toks) w L.boxes L.toks).ab b → B.w.heap.size ≤ b ∨ B.ab b := fun {b} ho => by
    rcases ho with ho | ho
    · exact .inl (Nat.le_trans hW.sz ho)
    · exact (habB ho).1
  have hold : ∀ b, b < w.heap.size → ¬ (baseOf (G.only L.toks) w L.boxes L.toks).ab b → w'.heap[b]? = w.heap[b]? ∧ G'.lim b = G.lim b := fun b h1 h2 => hE.old b h1 h2
  refine ⟨?_, ⟨hsz, fun k o hk ho => ?_⟩, ⟨fun b o v h1 h2 => ?_, fun b hb => hE.oldl b (hW.lablt b hb) hb⟩, fun p hp => ?_, fun b hb hf => ?_⟩
  · exact {
      boxes := fun id cs hl => by
        obtain ⟨g, h1, h2, h3, h4⟩ := hE.boxes id cs hl
        exact ⟨g, h1, h2, h3, hor h4⟩
      robs := fun id cs hl => by cases hl
      toks := hE.toks
      tau := fun k g e z hk => by
        obtain ⟨q1, q2, q3, q4⟩ := hE.tau k g e z hk
        exact ⟨hor q1, q2, q3, q4⟩
      tinj := hE.tinj
      binj := hE.binj
      blt := hE.blt
      lablt := hE.lablt
      old := fun b hb hn => by
        have h1 := Nat.lt_of_lt_of_le hb hW.sz
        have h2 : ¬ (baseOf (G.only L.toks) w L.boxes L.toks).ab b := fun hx => by
          rcases (habB hx).1 with q | q
          · omega
          · exact hn q
        obtain ⟨q1, q2⟩ := hold b h1 h2
        obtain ⟨q3, q4⟩ := hW.old b hb hn
        exact ⟨q1.trans q3, q2.trans q4⟩
      olda := fun b hb => by
        have h1 := Nat.lt_of_lt_of_le hb hW.sz
        obtain ⟨q1, q2⟩ := hE.olda b h1
        obtain ⟨q3, q4⟩ := hW.olda b hb
        exact ⟨Nat.le_trans q3 q1, fun o v ho hv => q2 o v (Nat.lt_of_lt_of_le ho q3) (q4 o v ho hv)⟩
      oldl := fun b hb hl => by
        have h1 := Nat.lt_of_lt_of_le hb hW.sz
        have e1 := hW.oldl b hb hl
        have e2 := hE.oldl b h1 (by show G.lab b ≠ []; rw [e1]; exact hl)
        exact e2.trans e1
      tlab := hE.tlab
      blab := hE.blab
      oldu := fun b hb hn hl => by
        have h1 := Nat.lt_of_lt_of_le hb hW.sz
        have h2 : ¬ (baseOf (G.only L.toks) w L.boxes L.toks).ab b := fun hx => by
          rcases (habB hx).1 with q | q
          · omega
          · exact hn q
        exact hE.oldu b h1 h2 (hW.oldu b hb hn hl)
      labw := fun b hb ho => by
        by_cases hx : w.heap.size ≤ b ∨ (baseOf (G.only L.toks) w L.boxes L.toks).ab b
        · exact hE.labw b hb hx
        · have h1 : b < w.heap.size := by
            have := fun q => hx (.inl q)
            omega
          have h2 : ¬ (baseOf (G.only L.toks) w L.boxes L.toks).ab b := fun q => hx (.inr q)
          have hl : G.lab b ≠ [] := fun e => hb (hE.oldu b h1 h2 e)
          obtain ⟨vs, e, q⟩ := hW.labw b hl ho
          exact ⟨vs, e, (hold b h1 h2).1.trans q⟩
      ids := fun p hp => by rw [hids] at hp; cases hp
      sz := Nat.le_trans hW.sz hsz
      os := hE.os.trans hW.os
      tape := hE.tape.trans hW.tape
      out := hE.out.trans hW.out
      dr := Nat.le_trans hW.dr hE.dr }
  · have hlt := (Array.getElem?_eq_some_iff.1 hk).1
    refine (hold k hlt fun hx => ?_).1.trans hk
    obtain ⟨_, vs, e, q⟩ := habB hx
    rw [hk] at q
    cases q
    cases ho
  · obtain ⟨h3, h4⟩ := hE.olda b (cell_lt h2)
    exact ⟨Nat.lt_of_lt_of_le h1 h3, h4 o v h1 h2⟩
  · obtain ⟨cs, hcs⟩ := look_memS hp
    obtain ⟨g, h1, _⟩ := hW.boxes p.1 cs hcs
    rw [h1]
    exact hE.ids (p.1, g) (List.mem_filterMap.2 ⟨p, hp, by simp only [Ghost.only]; rw [h1]; rfl⟩)
  · have hn : ¬ (baseOf (G.only L.toks) w L.boxes L.toks).ab b := fun hx => by
      rcases hab hx with ⟨p, hp, hg⟩ | ⟨k, hk, e, z, hg⟩
      · exact hf.1 p hp hg
      · exact hf.2 k hk e z hg
    refine ⟨(hold b hb hn).1, fun p hp hg => ?_, fun k hk e z hg => ?_⟩
    · obtain ⟨cs, hcs⟩ := look_memS hp
      obtain ⟨g, h1, _, _, h4⟩ := hE.boxes p.1 cs hcs
      rw [hg] at h1
      obtain rfl := Option.some.inj h1
      rcases h4 with q | q
      · exact absurd hb (Nat.not_lt.2 q)
      · exact hn q
    · rcases (hE.tau k b e z hg).1 with q | q
      · exact absurd hb (Nat.not_lt.2 q)
      · exact hn q
/-- whatever is no cells may be laid, or turned -/
theorem simW_other {B : Base} {bx ro : List (Nat × List D)} {tk : List Nat} {G : Ghost} {w w' : World} (h : SimW B bx ro tk G w) (hsz : w.heap.size ≤ w'.heap.size) (hk : ∀ (b : Nat) (vs : Array Value) (e : TypeId) (l : Nat × Nat), w.heap[b]? = some (Obj.cells vs e l) → w'.heap[b]? = some (Obj.cells vs e l)) (hlow : ∀ b < B.w.heap.size, w'.heap[b]? = w.heap[b]?)
    (hos : w'.os = w.os) (htp : w'.tape = w.tape) (hout : w'.output = w.output) (hdr : w.drawn ≤ w'.drawn) : SimW B bx ro tk G w' ∧ Mono G G w w' := by
  have hcell : ∀ b o v, w.cell? ⟨b, o, none⟩ = some v → w'.cell? ⟨b, o, none⟩ = some v := fun b o v hv => by
    unfold World.cell? at hv ⊢
    simp only at hv ⊢
    cases hx : w.heap[b]? with
    | none => rw [hx] at hv; cases hv
    | some x =>
      rw [hx] at hv
      cases x with
      | cells c e l => rw [hk _ _ _ _ hx]; exact hv
      | _ => cases hv
  have hm : Mono G G w w' := ⟨fun b o v h1 h2 => ⟨h1, hcell b o v h2⟩, fun _ _ => rfl⟩
  have hsh : ∀ {g : Nat} {vs : Array Value} {e : TypeId} {l : Nat × Nat}, w.heap[g]? = some (.cells vs e l) → w'.shape? g = w.shape? g := fun {g vs e l} hg => by
    unfold World.shape?
    rw [hk _ _ _ _ hg, hg]
  have hrel : ∀ {d v}, Rel G w d v → Rel G w' d v := fun hr => hr.mono hm (fun _ _ _ h => h) fun k _ => by
    cases hx : G.τ k with
    | none => exact .inl rfl
    | some x =>
      refine .inr ⟨rfl, fun g e z hg => ⟨rfl, ?_⟩⟩
      obtain ⟨_, _, ⟨cur, q, _⟩, _⟩ := h.tau k g e z (hx.trans hg)
      exact hsh q
  refine ⟨?_, hm⟩
  have hbox : ∀ {g cs}, BoxAt G w g cs → BoxAt G w' g cs := fun ⟨vs, e, e1, e2, e3⟩ => ⟨vs, e, hk _ _ _ _ e1, e2, fun j d v hd hv => hrel (e3 j d v hd hv)⟩
  exact { h with
    boxes := fun id cs hl => let ⟨g, h1, h2, h3, h4⟩ := h.boxes id cs hl; ⟨g, h1, hbox h2, h3, h4⟩
    robs := fun id cs hl => let ⟨g, h1, h2, h3⟩ := h.robs id cs hl; ⟨g, h1, hbox h2, h3⟩
    tau := fun k g e z hk' => let ⟨q1, q2, ⟨cur, q3, q5⟩, q4⟩ := h.tau k g e z hk'; ⟨q1, q2, ⟨cur, hk _ _ _ _ q3, q5⟩, q4⟩
    blt := fun i g hg => Nat.lt_of_lt_of_le (h.blt i g hg) hsz
    lablt := fun b hb => Nat.lt_of_lt_of_le (h.lablt b hb) hsz
    old := fun b hb hn => let ⟨q1, q2⟩ := h.old b hb hn; ⟨(hlow b hb).trans q1, q2⟩
    olda := fun b hb => let ⟨q1, q2⟩ := h.olda b hb; ⟨q1, fun o v ho hv => hcell _ _ _ (q2 o v ho hv)⟩
    labw := fun b hb ho => let ⟨vs, e, q⟩ := h.labw b hb ho; ⟨vs, e, hk _ _ _ _ q⟩
    sz := Nat.le_trans h.sz hsz
    os := hos.trans h.os
    tape := htp.trans h.tape
    out := hout.trans h.out
    dr := Nat.le_trans h.dr hdr }
/-- the statement, its rounds told by the logic: 'Lr i' between two rounds; 'Lp i' when a round begins; 'La i' behind the assignments; 'Lb i' when it ends -/
theorem rng_sim {S : Setup} {B : Base} (hids : B.ids = []) {g : Operand} {ps : Array Tmp} {assign body : Code} {Q : Exit → Act → World → Prop} {a : Act} {w : World} {gf : Nat} {lb : Array Value} {n m : Nat} {enc : Nat → Array Value} {Fa : World → Prop}
    (hg : a.eval g = .func (.func gf) #[] lb) (eg : ∀ args w, (callFunc gf args).run S.P w = .ok (.enter gf args) w) (hps : ∀ i, (enc i).size = ps.size) (hit : IterOk S.P gf lb n enc Fa)
    (Lr Lp La Lb : Nat → LS) (N bn : Nat) (E : List (Nat × D)) (hr : ∀ i, (Lr i).n = N ∧ (Lr i).env = E ∧ (Lr i).ro = []) (hpr : ∀ i, (Lp i).ro = [] ∧ (Lp i).boxes = (Lr i).boxes ∧ (Lp i).toks = (Lr i).toks) (har : ∀ i, (La i).ro = [])
    (hE : ∀ t d, look E t = some d → d.tks = [] ∧ ∀ id ∈ d.ids, ∀ i, (∃ q ∈ (Lr i).boxes, q.1 = id) ∧ ∃ q ∈ (La i).boxes, q.1 = id)
    (hb : ∀ i < n, (∀ p ∈ (Lr (i + 1)).boxes, p ∈ (Lb i).boxes ∧ look (Lb i).boxes p.1 = some p.2) ∧ ∀ k ∈ (Lr (i + 1)).toks, k ∈ (Lb i).toks)
    (hFaK : ∀ i G G' W W', Sim B (Lr i) G { a with defers := [] } W → Mono G G' W W' → W'.heap[bn]? = W.heap[bn]? → Fa W → Fa W')
    {G0 : Ghost} (hs : Sim B (Lr 0) G0 a w) (hf0 : Free (Lr 0) G0 bn) (hcb : ∃ vs e l, w.heap[bn]? = some (Obj.cells vs e l)) (hF0 : Fa w)
    (hP : ∀ i < n, ∀ G W, Sim B (Lr i) G { a with defers := [] } W → Fa W → Sim B (Lp i) G { tmps := (ps.zip (enc i)).foldl (fun t (p, v) => t.setIfInBounds p v) a.tmps, defers := [] } W)
    (hA : ∀ i < n, ∀ (r : Nat) (B2 : Base) (G : Ghost) (a1 : Act) (W : World) (Q : Exit → Act → World → Prop), Sim B2 { Lp i with fix := (Lp i).boxes.map (·.1) } G a1 W → (∀ a w, ¬ Q .outgrown a w) → (∀ G' a' w', Sim B2 (La i) G' a' w' → Q .normal a' w') → assign.wpIn (Fence.wide.inRound r) m S.P Q a1 W)
    (hB : ∀ i < n, ∀ (r : Nat) (B2 : Base) (G : Ghost) (a1 : Act) (W : World) (Q : Exit → Act → World → Prop), Sim B2 { La i with fix := (La i).boxes.map (·.1) } G a1 W → (∀ a w, ¬ Q .outgrown a w) → (∀ G' a' w', Sim B2 (Lb i) G' a' w' → Q .normal a' w') → body.wpIn (Fence.wide.inRound r) m S.P Q a1 W)
    (hdone : ∀ (D : Nat) (G : Ghost) (W : World), Sim B (Lr n) G { a with defers := [] } W → W.heap[D]? = some (.deferred (some [])) → B.w.heap.size ≤ D → Q .normal { a with defers := { target := .collected D, args := #[] } :: a.defers } W) :
    (Code.rangeFunc g ps assign body).wpIn Fence.wide m S.P Q a w := by
  have hlow : ∀ {W W' : World} {l : Nat}, B.w.heap.size ≤ l → (∀ b, b ≠ l → W'.heap[b]? = W.heap[b]?) → ∀ b < B.w.heap.size, W'.heap[b]? = W.heap[b]? := fun hl h b hb => h b (by omega)
  have hsz0 : B.w.heap.size ≤ w.heap.size := hs.W.sz
  -- what a turn of a block that is no cells leaves
  have put : ∀ {L : LS} {G : Ghost} {a' : Act} {W : World} {l : Nat} {o : Obj} (o' : Obj), Sim B L G a' W → B.w.heap.size ≤ l → W.heap[l]? = some o → o.isCells = false → Sim B L G a' (W.putObj l o') ∧ Mono G G W (W.putObj l o') := fun {L G a' W l o} o' h hl ho hc => by
    obtain ⟨h1, h2⟩ := simW_other (w' := W.putObj l o') h.W (by simp) (fun b vs e z hb => by
      by_cases e1 : b = l
      · subst e1; rw [ho] at hb; cases hb; cases hc
      · exact (World.putObj_heap_other e1).trans hb) (hlow hl fun b hb => World.putObj_heap_other hb) rfl rfl rfl (Nat.le_refl _)
    refine ⟨h.move h1 fun d v hr => hr.mono h2 (fun _ _ _ h => h) fun k _ => ?_, h2⟩
    cases hx : G.τ k with
    | none => exact .inl rfl
    | some x =>
      refine .inr ⟨rfl, fun g e z hg => ⟨rfl, ?_⟩⟩
      obtain ⟨_, _, ⟨cur, q, _⟩, _⟩ := h.W.tau k g e z (hx.trans hg)
      have hne : g ≠ l := fun e1 => by subst e1; rw [ho] at q; cases q; cases hc
      unfold World.shape?
      rw [World.putObj_heap_other hne]
  let J : Nat → World → Prop := fun i W => (∃ G, Sim B (Lr i) G { a with defers := [] } W ∧ Free (Lr i) G bn) ∧ (∃ vs e l, W.heap[bn]? = some (Obj.cells vs e l)) ∧ Fa W
  refine rng_wp hg eg hps hit J (fun i W h => h.2.2) ?_ ?_ ⟨⟨G0, ⟨rfl, hs.size, hs.env, hs.W, hs.fixed⟩, hf0⟩, hcb, hF0⟩ ?_ ?_
  · rintro i W o ⟨⟨G, h1, h2⟩, ⟨vs, e, l, h4⟩, h5⟩ ho
    have hb' : bn < W.heap.size := (Array.getElem?_eq_some_iff.1 h4).1
    obtain ⟨q1, q2⟩ := simW_other (w' := W.alloc o) h1.W (by simp) (fun b vs e z hb => (Below.heap_alloc W o b (Array.getElem?_eq_some_iff.1 hb).1).trans hb) (fun b hb => Below.heap_alloc W o b (Nat.lt_of_lt_of_le hb h1.W.sz)) rfl rfl rfl (Nat.le_refl _)
    have hsame := Below.heap_alloc W o bn hb'
    refine ⟨⟨G, h1.move q1 fun d v hr => hr.mono q2 (fun _ _ _ h => h) fun k _ => ?_, h2⟩, ⟨vs, e, l, hsame.trans h4⟩, hFaK i G G W _ h1 q2 hsame h5⟩
    cases hx : G.τ k with
    | none => exact .inl rfl
    | some x =>
      refine .inr ⟨rfl, fun g e z hg => ⟨rfl, ?_⟩⟩
      obtain ⟨_, _, ⟨cur, q, _⟩, _⟩ := h1.W.tau k g e z (hx.trans hg)
      unfold World.shape?
      rw [Below.heap_alloc W o g (Array.getElem?_eq_some_iff.1 q).1]
  · rintro i W l o o' ⟨⟨G, h1, h2⟩, ⟨vs, e, z, h4⟩, h5⟩ hl ho hc
    obtain ⟨q1, q2⟩ := put o' h1 (Nat.le_trans hsz0 hl) ho hc
    have hne : bn ≠ l := fun e => by subst e; rw [ho] at h4; cases h4; cases hc
    have hsame : (W.putObj l o').heap[bn]? = W.heap[bn]? := World.putObj_heap_other hne
    exact ⟨⟨G, q1, h2⟩, ⟨vs, e, z, hsame.trans h4⟩, hFaK i G G W _ h1 q2 hsame h5⟩
  · rintro r i W hi ⟨⟨G, h1, h2⟩, ⟨vs, e, z, h4⟩, h5⟩
    have hbW : bn < W.heap.size := (Array.getElem?_eq_some_iff.1 h4).1
    have hp := hP i hi G W h1 h5
    obtain ⟨p1, p2, p3⟩ := hpr i
    refine hA i hi r _ _ _ W _ (rnd_in hp p1) (fun _ _ h => h) fun G1 a1 w1 hs1 => ?_
    obtain ⟨s1, s2, s3, s4, s5⟩ := rnd_out hp hids hs1
    rw [p2] at s4
    have hf' : Free (Lp i) G bn := by unfold Free; rw [p2, p3]; exact h2
    obtain ⟨f1, f2⟩ := s5 bn hbW hf'
    have hsA : Sim B (La i) G1 a1 w1 := ⟨hs1.defers, hs1.size, hs1.env, (by rw [har i]; exact s1), fun p hp => by rw [hids] at hp; cases hp⟩
    refine ⟨s2, ?_⟩
    rintro w2 ⟨o, o', ho, hc, hl, rfl⟩
    obtain ⟨hs2, m2⟩ := put o' hsA (Nat.le_trans hsz0 hl) ho hc
    have hne : bn ≠ r := fun e => by subst e; rw [f1.trans h4] at ho; cases ho; cases hc
    have hsame2 : (w1.putObj r o').heap[bn]? = w1.heap[bn]? := World.putObj_heap_other hne
    refine hB i hi r _ _ _ _ _ (rnd_in hs2 (har i)) (fun _ _ h => h) fun G3 a3 w3 hs3 => ?_
    obtain ⟨t1, t2, t3, t4, t5⟩ := rnd_out hs2 hids hs3
    obtain ⟨f3, f4⟩ := t5 bn (by have := (Array.getElem?_eq_some_iff.1 (hsame2.trans (f1.trans h4))).1; exact this) f2
    obtain ⟨b1, b2⟩ := hb i hi
    have hM : Mono G G3 W w3 := s3.trans (m2.trans t3)
    have hsame3 : w3.heap[bn]? = W.heap[bn]? := f3.trans (hsame2.trans f1)
    have hn := hr i
    have hn1 := hr (i + 1)
    refine ⟨t2, ⟨G3, ⟨rfl, h1.size.trans (hn.1.trans hn1.1.symm), fun t d hd => ?_, t1.less (fun p hp => (b1 p hp).2) (by rw [hn1.2.2]; simp) b2, fun p hp => by rw [hids] at hp; cases hp⟩, ⟨fun p hp => f4.1 p (b1 p hp).1, fun k hk => f4.2 k (b2 k hk)⟩⟩, ⟨vs, e, z, hsame3.trans h4⟩, hFaK i G G3 W w3 h1 hM hsame3 h5⟩
    rw [hn1.2.1] at hd
    obtain ⟨v, q1, q2⟩ := h1.env t d (by rw [hn.2.1]; exact hd)
    obtain ⟨e1, e2⟩ := hE t d hd
    refine ⟨v, q1, q2.mono hM (fun id hid g hg => ?_) (fun k hk => by rw [e1] at hk; cases hk)⟩
    obtain ⟨⟨x, x1, x2⟩, ⟨y, y1, y2⟩⟩ := e2 id hid i
    have g1 := s4 x x1
    have g2 := t4 y y1
    rw [x2] at g1
    rw [y2] at g2
    rw [g2, g1]; exact hg
  · rintro D W ⟨⟨G, h1, _⟩, _, _⟩ hD hle
    exact hdone D G W h1 hD (Nat.le_trans hsz0 hle)
end Go.Lg
