/-
  Lg, part 36: marks in a statement's own body: a fresh start (what is old stays as it was), the regions that mark, what is known of what was marked.
-/
import Derived.Test.YtceejlnnlkmeiaaLgMk3
import Derived.Test.YtceejlnnlkmeiaaLgOpen
namespace Go.Lg
open Go Go.RowKit

/-- Nothing old may be changed; labels from N on are new. -/
structure Base.cl (B : Base) (N : Nat) : Prop where
  ab : ∀ b, ¬ B.ab b
  ids : B.ids = []
  lab : ∀ b i r, B.lab b = i :: r → i < N
  lablt : ∀ b, B.lab b ≠ [] → b < B.w.heap.size

def B0 (B : Base) : Ghost := ⟨B.lim, B.lab, fun _ => none, fun _ => none⟩
/-- What was read as 'd' when B began, and still is. -/
def KnI (B : Base) (d : D) : Ghost → World → Value → Prop := fun G w v => Rel (B0 B) B.w d v ∧ Mono (B0 B) G B.w w
def KD (B : Base) (d : D) : D := .pred (KnI B d)
theorem KD_le {B : Base} {d : D} (hi : d.ids = []) (ht : d.tks = []) : D.le (KD B d) d := .kn fun G w v h => by
  cases h with
  | pred hv h =>
    obtain ⟨h1, h2⟩ := h G w (Mono.refl G w)
    exact h1.mono h2 (by rw [hi]; simp) (by rw [ht]; simp)
theorem mono_of_simW {B : Base} {N : Nat} (hc : B.cl N) {bx ro : List (Nat × List D)} {tk : List Nat} {G : Ghost} {w : World} (h : SimW B bx ro tk G w) : Mono (B0 B) G B.w w :=
  ⟨fun b o v h1 h2 => by
    have hb := cell_lt h2
    obtain ⟨q1, q2⟩ := h.olda b hb
    exact ⟨Nat.lt_of_lt_of_le h1 q1, q2 o v h1 h2⟩, fun b hb => h.oldl b (hc.lablt b hb) hb⟩

/-- 'd' is read as before when places are written that bear no label beginning with 'i'. -/
def Keep (B : Base) (i : Nat) (d : D) : Prop := ∀ (G : Ghost) (w w' : World) (v : Value), Mono (B0 B) G B.w w' → (∀ b o u, ¬ ([i] <+: G.lab b) → cellAt w b o = some u → cellAt w' b o = some u) → Rel G w d v → Rel G w' d v
theorem keep_plain {B : Base} {i : Nat} {d : D} (h : d.plain = true) : Keep B i d := fun _ _ _ _ _ _ hr => plain_rel h hr
theorem keep_int (B : Base) (i : Nat) (k : IntKind) (n : Int) : Keep B i (.int k n) := keep_plain rfl
theorem keep_bool (B : Base) (i : Nat) (b : Bool) : Keep B i (.bool b) := keep_plain rfl
theorem keep_box (B : Base) (i : Nat) (id off : Nat) : Keep B i (.box id off) := fun _ _ _ _ _ _ hr => by cases hr with | box hb => exact .box hb
theorem keep_raw (B : Base) (i : Nat) (u : Value) : Keep B i (.raw u) := fun _ _ _ _ _ _ hr => by cases hr with | raw hb => exact .raw hb
theorem keep_KD (B : Base) (i : Nat) (d : D) : Keep B i (KD B d) := fun G w w' v hm _ hr => by
  cases hr with
  | pred hv h => exact .pred hv fun G2 w2 hm2 => ⟨(h G w (Mono.refl G w)).1, hm.trans hm2⟩
theorem keep_LT {B : Base} {i j : Nat} {s : Sh} {q : List Nat} {d : D} {n : Nat} (h : LT s (j :: q) d n) (hij : i ≠ j) : Keep B i d := fun G w w' v _ hf hr =>
  LT.keeps s (j :: q) d n h (by simp) (fun b o u hb hu => hf b o u (fun hp => hij (by
    have h1 := pre_eq hp ((List.prefix_append [j] q).trans hb) rfl
    simpa using h1)) hu) v hr

/-- The model's part of it: the places written are new and labelled. -/
theorem marked_sim {B : Base} {L : LS} {G : Ghost} {a : Act} {w w' : World} {qs : List (Nat × Nat)} {k : Int} (hs : Sim B L G a w) (hm : Marked w qs k w') (hnew : ∀ q ∈ qs, B.w.heap.size ≤ q.1) (hlab : ∀ q ∈ qs, G.lab q.1 ≠ [])
    {L' : LS} (hL : L'.n = L.n ∧ L'.fix = L.fix ∧ L'.toks = []) (henv : ∀ t d, look L'.env t = some d → ∃ v, a.tmps[t]? = some v ∧ Rel G w' d v)
    (hbx : ∀ id cs, look L'.boxes id = some cs → ∃ cs0, look L.boxes id = some cs0 ∧ cs0.length = cs.length ∧ ∀ (g : Nat) (vs : Array Value) (e : TypeId), G.β id = some g → w.heap[g]? = some (.cells vs e (0, 0)) → (∀ (j : Nat) d v, cs0[j]? = some d → vs[j]? = some v → Rel G w d v) → ∀ (j : Nat) d v, cs[j]? = some d → vs[j]? = some v → Rel G w' d v)
    (hro : ∀ id cs, look L'.ro id = some cs → ∃ cs0, look L.ro id = some cs0 ∧ cs0.length = cs.length ∧ ∀ (vl : List Value), (∀ (j : Nat) d v, cs0[j]? = some d → vl[j]? = some v → Rel G w d v) → ∀ (j : Nat) d v, cs[j]? = some d → vl[j]? = some v → Rel G w' d v) : Sim B L' G a w' := by
  have hW := hs.W
  have hβ : ∀ i g, G.β i = some g → ∀ q ∈ qs, q.1 ≠ g := fun i g hi q hq e => hlab q hq (by rw [e]; exact hW.blab i g hi)
  have hold : ∀ b, b < B.w.heap.size → w'.heap[b]? = w.heap[b]? := fun b hb => hm.other b (Nat.lt_of_lt_of_le hb hW.sz) fun q hq e => by have := hnew q hq; omega
  refine ⟨hs.defers, by rw [hL.1]; exact hs.size, henv, ?_, by rw [hL.2.1]; exact hs.fixed⟩
  exact {
    boxes := fun id cs hl => by
      obtain ⟨cs0, h0, h1, h2⟩ := hbx id cs hl
      obtain ⟨g, q1, ⟨vs, e, e1, e2, e3⟩, q3⟩ := hW.boxes id cs0 h0
      exact ⟨g, q1, ⟨vs, e, by rw [hm.other g (heap_lt e1) (hβ id g q1)]; exact e1, by rw [e2, h1], h2 g vs e q1 e1 e3⟩, q3⟩
    robs := fun id cs hl => by
      obtain ⟨cs0, h0, h1, h2⟩ := hro id cs hl
      obtain ⟨g, q1, ⟨vs, e, e1, e2, e3⟩, q3⟩ := hW.robs id cs0 h0
      exact ⟨g, q1, ⟨vs, e, by rw [hm.other g (heap_lt e1) (hβ id g q1)]; exact e1, by rw [e2, h1], fun j d v hd hv => h2 vs.toList (fun j d v hd hv => e3 j d v hd (by simpa using hv)) j d v hd (by simpa using hv)⟩, q3⟩
    toks := fun k hk => by rw [hL.2.2] at hk; cases hk
    tau := fun k g e z hk => by
      obtain ⟨h1, h2, ⟨cur, h3, h4⟩, h5⟩ := hW.tau k g e z hk
      obtain ⟨cur', h6, h7⟩ := hm.cells g cur e h3
      exact ⟨h1, h2, ⟨cur', h6, by omega⟩, h5⟩
    tinj := hW.tinj
    binj := hW.binj
    blt := fun i g hi => Nat.lt_of_lt_of_le (hW.blt i g hi) hm.size
    lablt := fun b hb => Nat.lt_of_lt_of_le (hW.lablt b hb) hm.size
    old := fun b hb hab => by rw [hold b hb]; exact hW.old b hb hab
    olda := fun b hb => by
      obtain ⟨q1, q2⟩ := hW.olda b hb
      exact ⟨q1, fun o v ho hv => by rw [cell_of_heap (hold b hb)]; exact q2 o v ho hv⟩
    oldl := hW.oldl
    tlab := hW.tlab
    blab := hW.blab
    oldu := hW.oldu
    labw := fun b hb hor => by
      obtain ⟨vs, e, h1⟩ := hW.labw b hb hor
      obtain ⟨vs', h2, _⟩ := hm.cells b vs e h1
      exact ⟨vs', e, h2⟩
    ids := hW.ids
    sz := Nat.le_trans hW.sz hm.size
    os := hm.os.trans hW.os
    tape := hm.tape.trans hW.tape
    out := hm.out.trans hW.out }

/-- Labelled places are new, and may be written. -/
theorem lab_new {B : Base} {N i : Nat} {bx ro : List (Nat × List D)} {tk : List Nat} {G : Ghost} {w : World} (hc : B.cl N) (hW : SimW B bx ro tk G w) (hi : N ≤ i) {b : Nat} (hb : [i] <+: G.lab b) : B.w.heap.size ≤ b ∧ G.lab b ≠ [] ∧ ∃ vs e, w.heap[b]? = some (.cells vs e (0, 0)) := by
  have hne : G.lab b ≠ [] := fun e => by rw [e] at hb; simpa using hb.length_le
  have hge : B.w.heap.size ≤ b := by
    refine Nat.le_of_not_lt fun hlt => ?_
    by_cases hl : B.lab b = []
    · exact hne (hW.oldu b hlt (hc.ab b) hl)
    · have h1 := hW.oldl b hlt hl
      obtain ⟨r, hr⟩ := hb
      have := hc.lab b i r (by rw [← h1, ← hr]; rfl)
      omega
  exact ⟨hge, hne, hW.labw b hne (.inl hge)⟩
theorem lab_Wr {B : Base} {N i : Nat} {bx ro : List (Nat × List D)} {tk : List Nat} {G : Ghost} {w : World} (hc : B.cl N) (hW : SimW B bx ro tk G w) (hi : N ≤ i) {q : Nat × Nat} (hb : [i] <+: G.lab q.1) {m : Int} (hv : cellAt w q.1 q.2 = some (.int .i64 m)) : Wr w q := by
  obtain ⟨_, _, vs, e, h⟩ := lab_new hc hW hi hb
  refine ⟨vs, e, h, ?_⟩
  simp only [cellAt, World.cell?, h] at hv
  exact (Array.getElem?_eq_some_iff.1 (by simpa using hv)).1

/-! What is known of a value that was marked. -/
def HeldI (s : Sh) (k : Int) (n : Nat) : Ghost → World → Value → Prop := fun G w v => ∃ qs, Lv G.lim w s v qs ∧ qs.length = n ∧ ∀ (j : Nat) q, qs[j]? = some q → cellAt w q.1 q.2 = some (.int .i64 (k + j))
theorem HeldI.mono {s : Sh} {k : Int} {n : Nat} {G G' : Ghost} {w w' : World} {v : Value} (hm : Mono G G' w w') (h : HeldI s k n G w v) : HeldI s k n G' w' v := by
  obtain ⟨qs, h1, h2, h3⟩ := h
  refine ⟨qs, Lv.mono (fun b o v h1 h2 => ⟨(hm.cell b o v h1 h2).1, .inl (hm.cell b o v h1 h2).2⟩) s v qs h1, h2, fun j q hj => ?_⟩
  exact (hm.cell _ _ _ (Lv.ints s v qs h1 q (List.mem_of_getElem? hj)).1 (h3 j q hj)).2
def HD (s : Sh) (k : Int) (n : Nat) : D := .pred (HeldI s k n)
theorem Lv.noagg {lim : Nat → Nat} {w : World} {s : Sh} {v : Value} {qs : List (Nat × Nat)} (h : Lv lim w s v qs) : ∀ cs, v ≠ .agg cs := fun cs e => by
  obtain ⟨A, n, c, h⟩ := h.slice
  rw [h] at e; cases e
/-- .. of the cells of a struct: before and after. -/
def TA : Fs → List Nat → Nat → Int → List D → List D → Nat → Prop
  | .nil, _, _, _, cs, cs', n => cs = [] ∧ cs' = [] ∧ n = 0
  | .cell _, _, _, _, _, _, _ => False
  | .skip r, p, j, k, cs, cs', n => ∃ c t t', cs = c :: t ∧ cs' = c :: t' ∧ c.plain = true ∧ TA r p (j + 1) k t t' n
  | .sub s r, p, j, k, cs, cs', n => ∃ d m n' t t', cs = d :: t ∧ cs' = HD s k m :: t' ∧ n = m + n' ∧ LT s (p ++ [j]) d m ∧ TA r p (j + 1) (k + m) t t' n'
theorem TA.len : ∀ (fs : Fs) (p : List Nat) (j : Nat) (k : Int) (cs cs' : List D) (n : Nat), TA fs p j k cs cs' n → cs.length = fs.len ∧ cs'.length = cs.length
  | .nil, p, j, k, cs, cs', n, h => by
    unfold TA at h
    obtain ⟨rfl, rfl, _⟩ := h
    exact ⟨rfl, rfl⟩
  | .cell _, _, _, _, _, _, _, h => by unfold TA at h; exact h.elim
  | .skip r, p, j, k, cs, cs', n, h => by
    unfold TA at h
    obtain ⟨c, t, t', rfl, rfl, _, h⟩ := h
    obtain ⟨h1, h2⟩ := TA.len r _ _ _ _ _ _ h
    simp [Fs.len, h1, h2]
  | .sub s r, p, j, k, cs, cs', n, h => by
    unfold TA at h
    obtain ⟨d, m, n', t, t', rfl, rfl, _, _, h⟩ := h
    obtain ⟨h1, h2⟩ := TA.len r _ _ _ _ _ _ h
    simp [Fs.len, h1, h2]
theorem TA.lv {G : Ghost} {w : World} : ∀ (fs : Fs) (p : List Nat) (j : Nat) (k : Int) (cs cs' : List D) (n : Nat), TA fs p j k cs cs' n → ∀ vl : List Value, vl.length = cs.length → (∀ (i : Nat) d v, cs[i]? = some d → vl[i]? = some v → Rel G w d v) →
    ∃ qs, LvA G.lim w fs vl qs ∧ qs.length = n ∧ qs.Nodup ∧ (∀ q ∈ qs, ∃ j', j ≤ j' ∧ (p ++ [j']) <+: G.lab q.1) ∧
      ∀ w', IntW G.lim G.lim w w' → (∀ (i : Nat) q, qs[i]? = some q → cellAt w' q.1 q.2 = some (.int .i64 (k + i))) → ∀ (i : Nat) d v, cs'[i]? = some d → vl[i]? = some v → Rel G w' d v
  | .nil, p, j, k, cs, cs', n, h, vl, hl, hr => by
    unfold TA at h
    obtain ⟨rfl, rfl, rfl⟩ := h
    exact ⟨[], by unfold LvA; rfl, rfl, by simp, by simp, fun _ _ _ i d v hd => by simp at hd⟩
  | .cell _, _, _, _, _, _, _, h, _, _, _ => by unfold TA at h; exact h.elim
  | .skip r, p, j, k, cs, cs', n, h, vl, hl, hr => by
    unfold TA at h
    obtain ⟨c, t, t', rfl, rfl, hp, h⟩ := h
    cases vl with
    | nil => simp at hl
    | cons v0 vl =>
      obtain ⟨qs, h1, h2, h3, h4, h5⟩ := TA.lv r p (j + 1) k t t' n h vl (by simpa using hl) (fun i d v hd hv => hr (i + 1) d v (by simpa using hd) (by simpa using hv))
      refine ⟨qs, by unfold LvA; exact h1, h2, h3, fun q hq => let ⟨j', a, b⟩ := h4 q hq; ⟨j', by omega, b⟩, fun w' hI hc i d v hd hv => ?_⟩
      cases i with
      | zero =>
        simp at hd hv
        subst hd; subst hv
        exact plain_rel hp (hr 0 _ _ rfl rfl)
      | succ i => exact h5 w' hI hc i d v (by simpa using hd) (by simpa using hv)
  | .sub s r, p, j, k, cs, cs', n, h, vl, hl, hr => by
    unfold TA at h
    obtain ⟨d, m, n', t, t', rfl, rfl, rfl, hT, h⟩ := h
    cases vl with
    | nil => simp at hl
    | cons v0 vl =>
      obtain ⟨l2, h1, h2, h3, h4, h5⟩ := TA.lv r p (j + 1) (k + m) t t' n' h vl (by simpa using hl) (fun i d v hd hv => hr (i + 1) d v (by simpa using hd) (by simpa using hv))
      obtain ⟨l1, m1, m2, m3, m4⟩ := LT.lv (G := G) (w := w) s (p ++ [j]) d m hT (by simp) v0 (hr 0 _ _ rfl rfl)
      refine ⟨l1 ++ l2, ?_, by simp [m2, h2], List.nodup_append.2 ⟨m3, h3, fun x hx y hy hxy => ?_⟩, fun q hq => ?_, fun w' hI hc i d' v hd hv => ?_⟩
      · unfold LvA
        exact ⟨v0, l1, l2, rfl, rfl, m1, h1⟩
      · subst hxy
        obtain ⟨j', q1, q2⟩ := h4 x hy
        have := pre_eq (m4 x hx) q2 (by simp)
        simp at this
        omega
      · rcases List.mem_append.1 hq with hq | hq
        · exact ⟨j, Nat.le_refl _, m4 q hq⟩
        · obtain ⟨j', q1, q2⟩ := h4 q hq
          exact ⟨j', by omega, q2⟩
      · cases i with
        | zero =>
          simp at hd hv
          subst hd; subst hv
          refine .pred m1.noagg fun G2 w2 hm2 => HeldI.mono hm2 ⟨l1, Lv.mono hI s _ l1 m1, m2, holds_left hc⟩
        | succ i =>
          refine h5 w' hI (fun i q hi => ?_) i d' v (by simpa using hd) (by simpa using hv)
          have := holds_right hc i q hi
          rw [m2] at this
          exact this

/-- A call of a checking function. -/
theorem simW_grown {B : Base} {bx ro : List (Nat × List D)} {tk : List Nat} {G : Ghost} {w w' : World} (h : SimW B bx ro tk G w) (hg : Grown w w') : SimW B bx ro tk G w' := by
  have hmn : Mono G G w w' := ⟨fun b o v h1 h2 => ⟨h1, by
    have : w'.cell? ⟨b, o, none⟩ = some v := hg.cellAt h2
    exact this⟩, fun _ _ => rfl⟩
  have rG : ∀ {d v}, Rel G w d v → Rel G w' d v := fun hr => hr.mono hmn (fun _ _ _ h => h) (fun k _ => .inr ⟨rfl, fun g e z hk => ⟨rfl, by
    obtain ⟨_, _, ⟨cur, h3, _⟩, _⟩ := h.tau k g e z hk
    exact shape_of_heap (hg.old g (heap_lt h3))⟩⟩)
  have hbox : ∀ {g cs}, BoxAt G w g cs → BoxAt G w' g cs := fun ⟨vs, e, e1, e2, e3⟩ => ⟨vs, e, by rw [hg.old _ (heap_lt e1)]; exact e1, e2, fun j d v hd hv => rG (e3 j d v hd hv)⟩
  exact {
    boxes := fun id cs hl => let ⟨g, q1, q2, q3⟩ := h.boxes id cs hl; ⟨g, q1, hbox q2, q3⟩
    robs := fun id cs hl => let ⟨g, q1, q2, q3⟩ := h.robs id cs hl; ⟨g, q1, hbox q2, q3⟩
    toks := h.toks
    tau := fun k g e z hk => by
      obtain ⟨h1, h2, ⟨cur, h3, h4⟩, h5⟩ := h.tau k g e z hk
      exact ⟨h1, h2, ⟨cur, by rw [hg.old _ (heap_lt h3)]; exact h3, h4⟩, h5⟩
    tinj := h.tinj
    binj := h.binj
    blt := fun i g hi => Nat.lt_of_lt_of_le (h.blt i g hi) hg.size
    lablt := fun b hb => Nat.lt_of_lt_of_le (h.lablt b hb) hg.size
    old := fun b hb hab => by rw [hg.old b (Nat.lt_of_lt_of_le hb h.sz)]; exact h.old b hb hab
    olda := fun b hb => by
      obtain ⟨q1, q2⟩ := h.olda b hb
      exact ⟨q1, fun o v ho hv => by rw [cell_of_heap (hg.old b (Nat.lt_of_lt_of_le hb h.sz))]; exact q2 o v ho hv⟩
    oldl := h.oldl
    tlab := h.tlab
    blab := h.blab
    oldu := h.oldu
    labw := fun b hb hor => by
      obtain ⟨vs, e, h1⟩ := h.labw b hb hor
      exact ⟨vs, e, by rw [hg.old _ (heap_lt h1)]; exact h1⟩
    ids := h.ids
    sz := Nat.le_trans h.sz hg.size
    os := hg.os.trans h.os
    tape := hg.tape.trans h.tape
    out := hg.out.trans h.out }
theorem sim_ret {B : Base} {L : LS} {G : Ghost} {a : Act} {w w' : World} (h : Sim B L G a w) (hg : Grown w w') {v : Value} {d : D} (hr : Rel G w' d v) : Sim B ⟨1, [(0, d)], [], [], [], L.fix⟩ G ⟨#[v], []⟩ w' :=
  by
    refine ⟨rfl, rfl, fun t d' hd => ?_, (simW_grown h.W hg).less (bx' := []) (ro' := []) (tk' := []) (by simp) (by simp) (by simp), h.fixed⟩
    simp only [look] at hd
    split at hd
    · rename_i e
      subst e
      obtain rfl := Option.some.inj hd
      exact ⟨v, rfl, hr⟩
    · cases hd
theorem held_fc {S : Setup} {f : FuncId} {s : Sh} (hd : HDs S.P f s) {k : Int} {n : Nat} (h0 : 0 ≤ k) (hb : k + n ≤ 4611686018427387904) : FC S f [] [] [] [HD s k n, .int .i64 k] (.int .i64 (k + n)) [] [] :=
  ⟨hd.1, fun w G vals hs => by
    obtain ⟨v0, e0, r0⟩ := hs.env 0 (HD s k n) rfl
    obtain ⟨v1, e1, r1⟩ := hs.env 1 (.int .i64 k) rfl
    cases r1
    cases r0 with
    | pred hv h =>
    obtain ⟨qs, q1, q2, q3⟩ := h G w (Mono.refl G w)
    have hsz : vals.size = 2 := hs.size
    have hvals : vals = #[v0, .int .i64 k] := by
      apply Array.ext_getElem?
      intro i
      match i with
      | 0 => rw [e0]; rfl
      | 1 => rw [e1]; rfl
      | i + 2 => rw [Array.getElem?_eq_none (by omega), Array.getElem?_eq_none (by simp)]
    subst hvals
    have hn : k + (qs.length : Int) ≤ 4611686018427387904 := by rw [q2]; exact hb
    refine (hd.2 G.lim w v0 qs k q1 q3 h0 hn).mono ?_
    rintro e w' ⟨rfl, rfl⟩
    exact ⟨_, G, rfl, sim_ret hs (Grown.refl _) (by rw [q2]; exact .int)⟩⟩
/-- the cells of a marked struct -/
def HF : Fs → Int → List D → Nat → Prop
  | .nil, _, cs, n => cs = [] ∧ n = 0
  | .cell _, _, _, _ => False
  | .skip r, k, cs, n => ∃ c t, cs = c :: t ∧ HF r k t n
  | .sub s r, k, cs, n => ∃ m n' t, cs = HD s k m :: t ∧ n = m + n' ∧ HF r (k + m) t n'
theorem HF.lv {G : Ghost} {w : World} : ∀ (fs : Fs) (k : Int) (cs : List D) (n : Nat), HF fs k cs n → ∀ vl : List Value, vl.length = cs.length → (∀ (i : Nat) d v, cs[i]? = some d → vl[i]? = some v → Rel G w d v) →
    vl.length = fs.len ∧ ∃ qs, LvA G.lim w fs vl qs ∧ qs.length = n ∧ ∀ (i : Nat) q, qs[i]? = some q → cellAt w q.1 q.2 = some (.int .i64 (k + i))
  | .nil, k, cs, n, h, vl, hl, hr => by
    unfold HF at h
    obtain ⟨rfl, rfl⟩ := h
    exact ⟨by simpa [Fs.len] using hl, [], by unfold LvA; rfl, rfl, by simp⟩
  | .cell _, _, _, _, h, _, _, _ => by unfold HF at h; exact h.elim
  | .skip r, k, cs, n, h, vl, hl, hr => by
    unfold HF at h
    obtain ⟨c, t, rfl, h⟩ := h
    cases vl with
    | nil => simp at hl
    | cons v0 vl =>
      obtain ⟨h0, qs, h1, h2, h3⟩ := HF.lv r k t n h vl (by simpa using hl) (fun i d v hd hv => hr (i + 1) d v (by simpa using hd) (by simpa using hv))
      exact ⟨by simp [Fs.len, h0], qs, by unfold LvA; exact h1, h2, h3⟩
  | .sub s r, k, cs, n, h, vl, hl, hr => by
    unfold HF at h
    obtain ⟨m, n', t, rfl, rfl, h⟩ := h
    cases vl with
    | nil => simp at hl
    | cons v0 vl =>
      obtain ⟨h0, l2, h1, h2, h3⟩ := HF.lv r (k + m) t n' h vl (by simpa using hl) (fun i d v hd hv => hr (i + 1) d v (by simpa using hd) (by simpa using hv))
      have r0 := hr 0 _ v0 rfl rfl
      cases r0 with
      | pred hv hh =>
      obtain ⟨l1, m1, m2, m3⟩ := hh G w (Mono.refl G w)
      refine ⟨by simp [Fs.len, h0], l1 ++ l2, by unfold LvA; exact ⟨v0, l1, l2, rfl, rfl, m1, h1⟩, by simp [m2, h2], fun i q hi => ?_⟩
      by_cases hil : i < l1.length
      · rw [List.getElem?_append_left hil] at hi
        exact m3 i q hi
      · rw [List.getElem?_append_right (by omega)] at hi
        rw [h3 _ q hi]
        congr 2
        omega
theorem heldA_fc {S : Setup} {f : FuncId} {fs : Fs} (hd : HDa S.P f fs) {k : Int} {n : Nat} {cs : List D} (hcs : HF fs k cs n) (h0 : 0 ≤ k) (hb : k + n ≤ 4611686018427387904) : FC S f [] [] [] [.agg cs, .int .i64 k] (.int .i64 (k + n)) [] [] :=
  ⟨hd.1, fun w G vals hs => by
    obtain ⟨v0, e0, r0⟩ := hs.env 0 (.agg cs) rfl
    obtain ⟨v1, e1, r1⟩ := hs.env 1 (.int .i64 k) rfl
    cases r1
    cases r0 with
    | @agg _ vl hl hr =>
    obtain ⟨q0, qs, q1, q2, q3⟩ := HF.lv fs k cs n hcs vl hl hr
    have hsz : vals.size = 2 := hs.size
    have hvals : vals = #[.agg vl.toArray, .int .i64 k] := by
      apply Array.ext_getElem?
      intro i
      match i with
      | 0 => rw [e0]; rfl
      | 1 => rw [e1]; rfl
      | i + 2 => rw [Array.getElem?_eq_none (by omega), Array.getElem?_eq_none (by simp)]
    subst hvals
    have hn : k + (qs.length : Int) ≤ 4611686018427387904 := by rw [q2]; exact hb
    refine (hd.2 G.lim w vl qs k q0 q1 q3 h0 hn).mono ?_
    rintro e w' ⟨rfl, hg⟩
    exact ⟨_, G, rfl, sim_ret hs hg (by rw [q2]; exact .int)⟩⟩
end Go.Lg
