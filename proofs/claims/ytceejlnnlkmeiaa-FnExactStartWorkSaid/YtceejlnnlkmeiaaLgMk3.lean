/-
  Lg, part 35: what the marking and the checking functions do, and the frame of their proofs.
-/
import Derived.Test.YtceejlnnlkmeiaaLgMw
namespace Go.Lg
open Go Go.RowKit

/-- The world has only grown. -/
structure Grown (w w' : World) : Prop where
  size : w.heap.size ≤ w'.heap.size
  old : ∀ b, b < w.heap.size → w'.heap[b]? = w.heap[b]?
  os : w'.os = w.os
  tape : w'.tape = w.tape
  out : w'.output = w.output
theorem Grown.refl (w : World) : Grown w w := ⟨Nat.le_refl _, fun _ _ => rfl, rfl, rfl, rfl⟩
theorem Grown.of_eq {w w' : World} (h : w' = w) : Grown w w' := by rw [h]; exact Grown.refl _
theorem Grown.trans {w w' w'' : World} (h : Grown w w') (h' : Grown w' w'') : Grown w w'' :=
  ⟨Nat.le_trans h.size h'.size, fun b hb => (h'.old b (Nat.lt_of_lt_of_le hb h.size)).trans (h.old b hb), h'.os.trans h.os, h'.tape.trans h.tape, h'.out.trans h.out⟩
theorem Grown.alloc (w : World) (c : Array Value) (t : TypeId) : Grown w (w.alloc (.cells c t)) :=
  ⟨by simp, fun b hb => heap_alloc_old w _ hb, rfl, rfl, rfl⟩
theorem Grown.cellAt {w w' : World} (h : Grown w w') {b o : Nat} {v : Value} (hv : Lg.cellAt w b o = some v) : Lg.cellAt w' b o = some v := by
  have hb := cell_lt (show w.cell? ⟨b, o, none⟩ = some v from hv)
  have : w'.cell? ⟨b, o, none⟩ = some v := by rw [cell_of_heap (h.old b hb)]; exact hv
  exact this
theorem Grown.intW {w w' : World} (h : Grown w w') (lim : Nat → Nat) : IntW lim lim w w' := fun _ _ _ ho hv => ⟨ho, .inl (h.cellAt hv)⟩
theorem Grown.Wr {w w' : World} (h : Grown w w') {p : Nat × Nat} (hp : Lg.Wr w p) : Lg.Wr w' p := by
  obtain ⟨vs, e, h1, h2⟩ := hp
  exact ⟨vs, e, by rw [h.old _ (heap_lt h1)]; exact h1, h2⟩

/-- The places 'as' have been written with k, k + 1 ..; all else stands; the world may have grown. -/
structure Marked (w : World) (as : List (Nat × Nat)) (k : Int) (w' : World) : Prop where
  size : w.heap.size ≤ w'.heap.size
  other : ∀ b, b < w.heap.size → (∀ q ∈ as, q.1 ≠ b) → w'.heap[b]? = w.heap[b]?
  cells : ∀ (b : Nat) (vs : Array Value) (e : TypeId), w.heap[b]? = some (.cells vs e (0, 0)) → ∃ vs', w'.heap[b]? = some (.cells vs' e (0, 0)) ∧ vs'.size = vs.size
  off : ∀ b o v, (b, o) ∉ as → cellAt w b o = some v → cellAt w' b o = some v
  ints : ∀ b o v, cellAt w b o = some v → cellAt w' b o = some v ∨ (b, o) ∈ as ∧ ∃ m', cellAt w' b o = some (.int .i64 m')
  at_ : as.Nodup → ∀ (j : Nat) q, as[j]? = some q → cellAt w' q.1 q.2 = some (.int .i64 (k + j))
  os : w'.os = w.os
  tape : w'.tape = w.tape
  out : w'.output = w.output
theorem Marked.of_grown {w w' : World} (h : Grown w w') (k : Int) : Marked w [] k w' :=
  ⟨h.size, fun b hb _ => h.old b hb, fun b vs e hb => ⟨vs, by rw [h.old b (heap_lt hb)]; exact hb, rfl⟩, fun b o v _ hv => h.cellAt hv, fun b o v hv => .inl (h.cellAt hv), fun _ j q hq => by simp at hq, h.os, h.tape, h.out⟩
theorem Marked.of_wrs {w : World} {as : List (Nat × Nat)} (k : Int) (h : ∀ q ∈ as, Wr w q) (hi : ∀ q ∈ as, ∃ m, cellAt w q.1 q.2 = some (.int .i64 m)) : Marked w as k (wrs w as k) :=
  ⟨by rw [wrs_size]; exact Nat.le_refl _, fun b _ hq => wrs_other hq, wrs_cells h, fun b o v hn hv => by rw [wrs_off h hn]; exact hv,
    fun b o v hv => by
      by_cases hm : (b, o) ∈ as
      · rcases (wrs_intW (lim := fun _ => o + 1) (k := k) h hi b o v (Nat.lt_succ_self _) hv).2 with q | ⟨_, m', _, q⟩
        · exact .inl q
        · exact .inr ⟨hm, m', q⟩
      · exact .inl (by rw [wrs_off h hm]; exact hv),
    fun hn => wrs_at h hn, wrs_rest.1, wrs_rest.2.1, wrs_rest.2.2⟩
theorem Marked.Wr {w w' : World} {as : List (Nat × Nat)} {k : Int} (h : Marked w as k w') {p : Nat × Nat} (hp : Lg.Wr w p) : Lg.Wr w' p := by
  obtain ⟨vs, e, h1, h2⟩ := hp
  obtain ⟨vs', h3, h4⟩ := h.cells _ vs e h1
  exact ⟨vs', e, h3, by omega⟩
theorem Marked.intW {w w' : World} {as : List (Nat × Nat)} {k : Int} (h : Marked w as k w') (lim : Nat → Nat) (hi : ∀ q ∈ as, ∃ m, cellAt w q.1 q.2 = some (.int .i64 m)) : IntW lim lim w w' := fun b o v ho hv => by
  refine ⟨ho, ?_⟩
  rcases h.ints b o v hv with q | ⟨hm, m', q⟩
  · exact .inl q
  · obtain ⟨m, hm⟩ := hi _ hm
    rw [show cellAt w (b, o).1 (b, o).2 = some v from hv] at hm
    exact .inr ⟨m, m', Option.some.inj hm, q⟩
theorem Marked.append {w w' w'' : World} {l1 l2 : List (Nat × Nat)} {k : Int} (h : Marked w l1 k w') (h' : Marked w' l2 (k + l1.length) w'') : Marked w (l1 ++ l2) k w'' := by
  refine ⟨Nat.le_trans h.size h'.size, fun b hb hq => ?_, fun b vs e hb => ?_, fun b o v hn hv => ?_, fun b o v hv => ?_, fun hn j q hj => ?_, h'.os.trans h.os, h'.tape.trans h.tape, h'.out.trans h.out⟩
  · rw [h'.other b (Nat.lt_of_lt_of_le hb h.size) fun q hq' => hq q (List.mem_append_right _ hq'), h.other b hb fun q hq' => hq q (List.mem_append_left _ hq')]
  · obtain ⟨vs1, q1, q2⟩ := h.cells b vs e hb
    obtain ⟨vs2, q3, q4⟩ := h'.cells b vs1 e q1
    exact ⟨vs2, q3, q4.trans q2⟩
  · exact h'.off b o v (fun hm => hn (List.mem_append_right _ hm)) (h.off b o v (fun hm => hn (List.mem_append_left _ hm)) hv)
  · rcases h.ints b o v hv with q | ⟨hm, m, q⟩
    · rcases h'.ints b o v q with q | ⟨hm, q⟩
      · exact .inl q
      · exact .inr ⟨List.mem_append_right _ hm, q⟩
    · rcases h'.ints b o _ q with q | ⟨hm', q⟩
      · exact .inr ⟨List.mem_append_left _ hm, m, q⟩
      · exact .inr ⟨List.mem_append_left _ hm, q⟩
  · obtain ⟨n1, n2, n3⟩ := List.nodup_append.1 hn
    by_cases hjl : j < l1.length
    · rw [List.getElem?_append_left hjl] at hj
      have hm := List.mem_of_getElem? hj
      exact h'.off q.1 q.2 _ (fun hm' => n3 q hm q hm' rfl) (h.at_ n1 j q hj)
    · rw [List.getElem?_append_right (by omega)] at hj
      rw [h'.at_ n2 _ q hj]
      congr 2
      omega

def MKs (P : Program) (f : FuncId) (s : Sh) : Prop := Enters P f ∧ ∀ (lim : Nat → Nat) (w : World) (v : Value) (as : List (Nat × Nat)) (k : Int), Lv lim w s v as → (∀ q ∈ as, Wr w q) → 0 ≤ k → k + as.length ≤ 4611686018427387904 →
  Calls P f #[v, .int .i64 k] w fun e w' => e = .returned (.int .i64 (k + as.length)) ∧ w' = wrs w as k
def HDs (P : Program) (f : FuncId) (s : Sh) : Prop := Enters P f ∧ ∀ (lim : Nat → Nat) (w : World) (v : Value) (as : List (Nat × Nat)) (k : Int), Lv lim w s v as → (∀ (j : Nat) q, as[j]? = some q → cellAt w q.1 q.2 = some (.int .i64 (k + j))) → 0 ≤ k → k + as.length ≤ 4611686018427387904 →
  Calls P f #[v, .int .i64 k] w fun e w' => e = .returned (.int .i64 (k + as.length)) ∧ w' = w
def MKa (P : Program) (f : FuncId) (fs : Fs) : Prop := Enters P f ∧ ∀ (lim : Nat → Nat) (w : World) (vs : List Value) (as : List (Nat × Nat)) (k : Int), vs.length = fs.len → LvA lim w fs vs as → (∀ q ∈ as, Wr w q) → 0 ≤ k → k + as.length ≤ 4611686018427387904 →
  Calls P f #[.agg vs.toArray, .int .i64 k] w fun e w' => e = .returned (.int .i64 (k + as.length)) ∧ Marked w as k w'
def HDa (P : Program) (f : FuncId) (fs : Fs) : Prop := Enters P f ∧ ∀ (lim : Nat → Nat) (w : World) (vs : List Value) (as : List (Nat × Nat)) (k : Int), vs.length = fs.len → LvA lim w fs vs as → (∀ (j : Nat) q, as[j]? = some q → cellAt w q.1 q.2 = some (.int .i64 (k + j))) → 0 ≤ k → k + as.length ≤ 4611686018427387904 →
  Calls P f #[.agg vs.toArray, .int .i64 k] w fun e w' => e = .returned (.int .i64 (k + as.length)) ∧ Grown w w'

section steps
variable {lim : Nat → Nat} {w : World}
theorem wrs_LvF {fs : Fs} {b o : Nat} {l1 l2 : List (Nat × Nat)} {k : Int} (h : LvF lim w fs b o l2) (hw1 : ∀ q ∈ l1, Wr w q) (hi1 : ∀ q ∈ l1, ∃ m, cellAt w q.1 q.2 = some (.int .i64 m)) : LvF lim (wrs w l1 k) fs b o l2 :=
  LvF.mono (wrs_intW hw1 hi1) fs b o l2 h
theorem LvF.sub_step {s : Sh} {r : Fs} {b o : Nat} {as : List (Nat × Nat)} (h : LvF lim w (.sub s r) b o as) : ∃ v l1 l2, as = l1 ++ l2 ∧ cellAt w b o = some v ∧ Lv lim w s v l1 ∧ LvF lim w r b (o + 1) l2 ∧
    ∀ k, (∀ q ∈ l1, Wr w q) → (∀ q ∈ l2, Wr w q) → LvF lim (wrs w l1 k) r b (o + 1) l2 ∧ ∀ q ∈ l2, Wr (wrs w l1 k) q := by
  unfold LvF at h
  obtain ⟨v, l1, l2, h1, h2, h3, h4, h5⟩ := h
  exact ⟨v, l1, l2, h1, h3, h4, h5, fun k q1 q2 => ⟨wrs_LvF h5 q1 fun q hq => (Lv.ints s v l1 h4 q hq).2, fun q hq => wrs_Wr q1 q (q2 q hq)⟩⟩
theorem LvF.cell_step {r : Fs} {b o : Nat} {as : List (Nat × Nat)} (h : LvF lim w (.cell r) b o as) : ∃ l, as = (b, o) :: l ∧ LvF lim w r b (o + 1) l ∧
    ∀ k, Wr w (b, o) → (∀ q ∈ l, Wr w q) → LvF lim (wr w (b, o) k) r b (o + 1) l ∧ ∀ q ∈ l, Wr (wr w (b, o) k) q := by
  unfold LvF at h
  obtain ⟨l, h1, h2, h3, h4⟩ := h
  exact ⟨l, h1, h4, fun k q1 q2 => ⟨LvF.mono (wr_intW q1 h3) r b _ l h4, fun q hq => q1.wr (q2 q hq)⟩⟩
theorem LvF.skip_step {r : Fs} {b o : Nat} {as : List (Nat × Nat)} (h : LvF lim w (.skip r) b o as) : LvF lim w r b (o + 1) as := by unfold LvF at h; exact h
theorem LvF.nil_step {b o : Nat} {as : List (Nat × Nat)} (h : LvF lim w .nil b o as) : as = [] := by unfold LvF at h; exact h
theorem LvA.sub_step {s : Sh} {r : Fs} {v : Value} {vs : List Value} {as : List (Nat × Nat)} (h : LvA lim w (.sub s r) (v :: vs) as) : ∃ l1 l2, as = l1 ++ l2 ∧ Lv lim w s v l1 ∧ LvA lim w r vs l2 := by
  unfold LvA at h
  obtain ⟨v', l1, l2, h1, h2, h3, h4⟩ := h
  obtain rfl : v = v' := by simpa using h2
  exact ⟨l1, l2, h1, h3, h4⟩
theorem LvA.skip_step {r : Fs} {v : Value} {vs : List Value} {as : List (Nat × Nat)} (h : LvA lim w (.skip r) (v :: vs) as) : LvA lim w r vs as := by unfold LvA at h; exact h
theorem LvA.nil_step {vs : List Value} {as : List (Nat × Nat)} (h : LvA lim w .nil vs as) : as = [] := by unfold LvA at h; exact h
theorem holds_left {l1 l2 : List (Nat × Nat)} {k : Int} (h : ∀ (j : Nat) q, (l1 ++ l2)[j]? = some q → cellAt w q.1 q.2 = some (.int .i64 (k + j))) : ∀ (j : Nat) q, l1[j]? = some q → cellAt w q.1 q.2 = some (.int .i64 (k + j)) := fun j q hj =>
  h j q (by rw [List.getElem?_append_left (List.getElem?_eq_some_iff.1 hj).1]; exact hj)
theorem holds_right {l1 l2 : List (Nat × Nat)} {k : Int} (h : ∀ (j : Nat) q, (l1 ++ l2)[j]? = some q → cellAt w q.1 q.2 = some (.int .i64 (k + j))) : ∀ (j : Nat) q, l2[j]? = some q → cellAt w q.1 q.2 = some (.int .i64 (k + l1.length + j)) := fun j q hj => by
  have := h (l1.length + j) q (by rw [List.getElem?_append_right (by omega), Nat.add_sub_cancel_left]; exact hj)
  rw [this]
  congr 2
  omega
theorem holds_head {p : Nat × Nat} {l : List (Nat × Nat)} {k : Int} (h : ∀ (j : Nat) q, (p :: l)[j]? = some q → cellAt w q.1 q.2 = some (.int .i64 (k + j))) : cellAt w p.1 p.2 = some (.int .i64 k) := by
  have := h 0 p rfl
  simpa using this
theorem holds_tail {p : Nat × Nat} {l : List (Nat × Nat)} {k : Int} (h : ∀ (j : Nat) q, (p :: l)[j]? = some q → cellAt w q.1 q.2 = some (.int .i64 (k + j))) : ∀ (j : Nat) q, l[j]? = some q → cellAt w q.1 q.2 = some (.int .i64 (k + 1 + j)) := fun j q hj => by
  have := h (j + 1) q (by simpa using hj)
  rw [this]
  congr 2
  omega
end steps

theorem cellAt_alloc (w : World) (c : Array Value) (t : TypeId) (o : Nat) : cellAt (w.alloc (.cells c t)) w.heap.size o = c[o]? := by
  unfold cellAt World.cell?
  simp only
  rw [heap_alloc_new]
  rfl
/-- A struct's own box stands while marks go on. -/
theorem box_stands {w w1 w2 : World} {l : List (Nat × Nat)} {k : Int} {vs : List Value} (hb : ∀ (j : Nat) u, vs[j]? = some u → cellAt w1 w.heap.size j = some u) (hm : Marked w1 l k w2) (hl : ∀ q ∈ l, Wr w q) : ∀ (j : Nat) u, vs[j]? = some u → cellAt w2 w.heap.size j = some u := fun j u hj =>
  hm.off _ _ _ (fun hmem => by
    obtain ⟨_, _, h1, _⟩ := hl _ hmem
    have := heap_lt h1
    simp at this) (hb j u hj)
theorem int_eq {a b : Int} (h : a = b) : some (Value.int .i64 a) = some (Value.int .i64 b) := by rw [h]
theorem take_flat {α : Type} {ass : List (List α)} {i : Nat} {l : List α} (h : ass[i]? = some l) : (ass.take (i + 1)).flatten = (ass.take i).flatten ++ l := by
  rw [List.take_add_one, h]
  simp

/-- The loop of a marking function. -/
theorem sm_mark_loop {P : Program} {n : Nat} {R : List (Nat × Value) → World → Prop} {kk : List MItem} {E : List (Nat × Value)} {lim : Nat → Nat} {w : World} {fs : Fs} {v : Value} {as : List (Nat × Nat)} {k : Int} {c : Code}
    (h : Lv lim w (.slc fs) v as) (hW : ∀ q ∈ as, Wr w q) (h0 : 0 ≤ k) (hb : k + as.length ≤ 4611686018427387904) (hc : coversM E [(0, v), (1, .int .i64 k), (5, .int .i64 0)])
    (round : ∀ (A : Option Addr) (m cp : Nat), v = .slice A m cp → m ≤ maxLen → ∀ (i : Nat) (k' : Int) (wi : World) (J : List (Nat × Value) → World → Prop), 0 ≤ k' → k' ≤ 4611686018427387904 → i ≤ m → (i < m → ∃ b o l, A = some ⟨b, o, none⟩ ∧ LvF lim wi fs b (o + i * fs.len) l ∧ (∀ q ∈ l, Wr wi q) ∧ k' + l.length ≤ 4611686018427387904 ∧
        ∀ E', coversM E' [(0, .slice A m cp), (1, .int .i64 (k' + l.length)), (5, .int .i64 ((i : Int) + 1))] → J E' (wrs wi l k')) → (i = m → k' = k + as.length ∧ wi = wrs w as k) →
      SM P n R (.code c :: .loopEnd J :: kk) [(0, .slice A m cp), (1, .int .i64 k'), (5, .int .i64 i)] wi) : SM P n R (.code (.loop c) :: kk) E w := by
  unfold Lv at h
  obtain ⟨A, m, cp, b, o, rfl, hm, hA, ass, h4, rfl, h6⟩ := h
  refine sm_loop (fun i => [(0, .slice A m cp), (1, .int .i64 (k + (ass.take i).flatten.length)), (5, .int .i64 i)]) (fun i => wrs w (ass.take i).flatten k) m (by simpa using hc) (by simp [wrs]) fun i hi => ?_
  have hlen : ((ass.take i).flatten.length : Int) ≤ ass.flatten.length := by
    have : ass.flatten = (ass.take i).flatten ++ (ass.drop i).flatten := by rw [← List.flatten_append, List.take_append_drop]
    rw [this, List.length_append]; omega
  refine round A m cp rfl hm i _ _ _ (by omega) (by omega) hi (fun hlt => ?_) (fun he => ?_)
  · have hl : ass[i]? = some ass[i] := List.getElem?_eq_getElem (by omega)
    have hmem1 : ∀ q ∈ (ass.take i).flatten, q ∈ ass.flatten := fun q hq => by
      obtain ⟨l, h1, h2⟩ := List.mem_flatten.1 hq
      exact List.mem_flatten.2 ⟨l, List.mem_of_mem_take h1, h2⟩
    have hmem2 : ∀ q ∈ ass[i], q ∈ ass.flatten := fun q hq => List.mem_flatten.2 ⟨_, List.getElem_mem _, hq⟩
    have hint : ∀ q ∈ (ass.take i).flatten, ∃ m, cellAt w q.1 q.2 = some (.int .i64 m) := fun q hq => by
      obtain ⟨l, h1, h2⟩ := List.mem_flatten.1 hq
      obtain ⟨j, hj⟩ := List.getElem?_of_mem (List.mem_of_mem_take h1)
      exact (LvF.ints fs b _ l (h6 j l hj) q h2).2
    have hw1 : ∀ q ∈ (ass.take i).flatten, Wr w q := fun q hq => hW q (hmem1 q hq)
    refine ⟨b, o, ass[i], hA.resolve_left (by omega), wrs_LvF (h6 i _ hl) hw1 hint, fun q hq => wrs_Wr hw1 q (hW q (hmem2 q hq)), ?_, fun E' hE' => ⟨hlt, ?_, ?_⟩⟩
    · have : ((ass.take (i + 1)).flatten.length : Int) ≤ ass.flatten.length := by
        have : ass.flatten = (ass.take (i + 1)).flatten ++ (ass.drop (i + 1)).flatten := by rw [← List.flatten_append, List.take_append_drop]
        rw [this, List.length_append]; omega
      rw [take_flat hl, List.length_append] at this
      omega
    · rw [take_flat hl, List.length_append]
      rw [show k + ((((ass.take i).flatten.length + ass[i].length : Nat)) : Int) = k + ((ass.take i).flatten.length : Int) + (ass[i].length : Int) by omega]
      exact hE'
    · rw [take_flat hl, wrs_append]
  · have : ass.take i = ass := List.take_of_length_le (by omega)
    rw [this]
    exact ⟨rfl, rfl⟩

/-- .. of a checking function. -/
theorem sm_held_loop {P : Program} {n : Nat} {R : List (Nat × Value) → World → Prop} {kk : List MItem} {E : List (Nat × Value)} {lim : Nat → Nat} {w : World} {fs : Fs} {v : Value} {as : List (Nat × Nat)} {k : Int} {c : Code}
    (h : Lv lim w (.slc fs) v as) (hW : ∀ (j : Nat) q, as[j]? = some q → cellAt w q.1 q.2 = some (.int .i64 (k + j))) (h0 : 0 ≤ k) (hb : k + as.length ≤ 4611686018427387904) (hc : coversM E [(0, v), (1, .int .i64 k), (5, .int .i64 0)])
    (round : ∀ (A : Option Addr) (m cp : Nat), v = .slice A m cp → m ≤ maxLen → ∀ (i : Nat) (k' : Int) (J : List (Nat × Value) → World → Prop), 0 ≤ k' → k' ≤ 4611686018427387904 → i ≤ m → (i < m → ∃ b o l, A = some ⟨b, o, none⟩ ∧ LvF lim w fs b (o + i * fs.len) l ∧ (∀ (j : Nat) q, l[j]? = some q → cellAt w q.1 q.2 = some (.int .i64 (k' + j))) ∧ k' + l.length ≤ 4611686018427387904 ∧
        ∀ E', coversM E' [(0, .slice A m cp), (1, .int .i64 (k' + l.length)), (5, .int .i64 ((i : Int) + 1))] → J E' w) → (i = m → k' = k + as.length) →
      SM P n R (.code c :: .loopEnd J :: kk) [(0, .slice A m cp), (1, .int .i64 k'), (5, .int .i64 i)] w) : SM P n R (.code (.loop c) :: kk) E w := by
  unfold Lv at h
  obtain ⟨A, m, cp, b, o, rfl, hm, hA, ass, h4, rfl, h6⟩ := h
  refine sm_loop (fun i => [(0, .slice A m cp), (1, .int .i64 (k + (ass.take i).flatten.length)), (5, .int .i64 i)]) (fun _ => w) m (by simpa using hc) rfl fun i hi => ?_
  have hsplit : ass.flatten = (ass.take i).flatten ++ (ass.drop i).flatten := by rw [← List.flatten_append, List.take_append_drop]
  have hlen : ((ass.take i).flatten.length : Int) ≤ ass.flatten.length := by
    rw [hsplit, List.length_append]; omega
  refine round A m cp rfl hm i _ _ (by omega) (by omega) hi (fun hlt => ?_) (fun he => ?_)
  · have hl : ass[i]? = some ass[i] := List.getElem?_eq_getElem (by omega)
    have hsplit2 : ass.flatten = (ass.take i).flatten ++ (ass[i] ++ (ass.drop (i + 1)).flatten) := by
      rw [← List.append_assoc, ← take_flat hl, ← List.flatten_append, List.take_append_drop]
    refine ⟨b, o, ass[i], hA.resolve_left (by omega), h6 i _ hl, ?_, ?_, fun E' hE' => ⟨hlt, ?_, rfl⟩⟩
    · rw [hsplit2] at hW
      exact holds_left (holds_right hW)
    · have := congrArg List.length hsplit2
      simp only [List.length_append] at this
      omega
    · rw [take_flat hl, List.length_append]
      rw [show k + ((((ass.take i).flatten.length + ass[i].length : Nat)) : Int) = k + ((ass.take i).flatten.length : Int) + (ass[i].length : Int) by omega]
      exact hE'
  · have : ass.take i = ass := List.take_of_length_le (by omega)
    rw [this]
end Go.Lg
