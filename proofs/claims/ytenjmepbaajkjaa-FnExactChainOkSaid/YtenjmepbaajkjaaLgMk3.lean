/-
  Lg, part 35: what the marking and the checking functions do, and the frame of their proofs.
-/
import Derived.Test.YtenjmepbaajkjaaLgMk
import Derived.Test.YtenjmepbaajkjaaLgOpen
namespace Go.Lg
open Go Go.RowKit

/-- The world has only grown. -/
structure Grown (w w' : World) : Prop where
  size : w.heap.size ≤ w'.heap.size
  old : ∀ b, b < w.heap.size → w'.heap[b]? = w.heap[b]?
  os : w'.os = w.os
  tape : w'.tape = w.tape
  out : w'.output = w.output
theorem Grown.refl (w : World) : Grown w w := ⟨Nat.le_refl _, fun _ _ => rfl, rfl, rfl, rfl⟩
theorem Grown.of_eq {w w' : World} (h : w' = w) : Grown w w' := by rw [h]; exact Grown.refl _
theorem Grown.trans {w w' w'' : World} (h : Grown w w') (h' : Grown w' w'') : Grown w w'' :=
  ⟨Nat.le_trans h.size h'.size, fun b hb => (h'.old b (Nat.lt_of_lt_of_le hb h.size)).trans (h.old b hb), h'.os.trans h.os, h'.tape.trans h.tape, h'.out.trans h.out⟩
theorem Grown.alloc (w : World) (c : Array Value) (t : TypeId) : Grown w (w.alloc (.cells c t)) :=
  ⟨by simp, fun b hb => heap_alloc_old w _ hb, rfl, rfl, rfl⟩
theorem Grown.cellAt {w w' : World} (h : Grown w w') {b o : Nat} {v : Value} (hv : Lg.cellAt w b o = some v) : Lg.cellAt w' b o = some v := by
  have hb := cell_lt (show w.cell? ⟨b, o, none⟩ = some v from hv)
  have : w'.cell? ⟨b, o, none⟩ = some v := by rw [cell_of_heap (h.old b hb)]; exact hv
  exact this
theorem Grown.intW {w w' : World} (h : Grown w w') (lim : Nat → Nat) : IntW lim lim w w' := fun _ _ _ ho hv => ⟨ho, .inl (h.cellAt hv)⟩
theorem Grown.Wr {w w' : World} (h : Grown w w') {p : Nat × Nat} (hp : Lg.Wr w p) : Lg.Wr w' p := by
  obtain ⟨vs, e, h1, h2⟩ := hp
  exact ⟨vs, e, by rw [h.old _ (heap_lt h1)]; exact h1, h2⟩

/-- The places 'as' have been written with k, k + 1 ..; all else stands; the world may have grown. -/
structure Marked (w : World) (as : List (Nat × Nat)) (k : Int) (w' : World) : Prop where
  size : w.heap.size ≤ w'.heap.size
  other : ∀ b, b < w.heap.size → (∀ q ∈ as, q.1 ≠ b) → w'.heap[b]? = w.heap[b]?
  cells : ∀ (b : Nat) (vs : Array Value) (e : TypeId), w.heap[b]? = some (.cells vs e (0, 0)) → ∃ vs', w'.heap[b]? = some (.cells vs' e (0, 0)) ∧ vs'.size = vs.size
  off : ∀ b o v, (b, o) ∉ as → cellAt w b o = some v → cellAt w' b o = some v
  ints : ∀ b o v, cellAt w b o = some v → cellAt w' b o = some v ∨ (b, o) ∈ as ∧ Mkd v ∧ ∃ n, cellAt w' b o = some (mkV v n)
  at_ : as.Nodup → ∀ (j : Nat) q, as[j]? = some q → HvC w' q (k + j)
  os : w'.os = w.os
  tape : w'.tape = w.tape
  out : w'.output = w.output
theorem Marked.of_grown {w w' : World} (h : Grown w w') (k : Int) : Marked w [] k w' :=
  ⟨h.size, fun b hb _ => h.old b hb, fun b vs e hb => ⟨vs, by rw [h.old b (heap_lt hb)]; exact hb, rfl⟩, fun b o v _ hv => h.cellAt hv, fun b o v hv => .inl (h.cellAt hv), fun _ j q hq => by simp at hq, h.os, h.tape, h.out⟩
theorem Marked.of_wrs {w : World} {as : List (Nat × Nat)} (k : Int) (h : ∀ q ∈ as, Wr w q) (hi : ∀ q ∈ as, MkC w q) : Marked w as k (wrs w as k) :=
  ⟨by rw [wrs_size]; exact Nat.le_refl _, fun b _ hq => wrs_other hq, wrs_cells h, fun b o v hn hv => by rw [wrs_off h hn]; exact hv,
    fun b o v hv => by
      by_cases hm : (b, o) ∈ as
      · rcases (wrs_intW (lim := fun _ => o + 1) (k := k) h hi b o v (Nat.lt_succ_self _) hv).2 with q | q
        · exact .inl q
        · exact .inr ⟨hm, q⟩
      · exact .inl (by rw [wrs_off h hm]; exact hv),
    fun hn => wrs_at h hi hn, wrs_rest.1, wrs_rest.2.1, wrs_rest.2.2⟩
theorem Marked.Wr {w w' : World} {as : List (Nat × Nat)} {k : Int} (h : Marked w as k w') {p : Nat × Nat} (hp : Lg.Wr w p) : Lg.Wr w' p := by
  obtain ⟨vs, e, h1, h2⟩ := hp
  obtain ⟨vs', h3, h4⟩ := h.cells _ vs e h1
  exact ⟨vs', e, h3, by omega⟩
theorem Marked.intW {w w' : World} {as : List (Nat × Nat)} {k : Int} (h : Marked w as k w') (lim : Nat → Nat) (_ : ∀ q ∈ as, MkC w q) : IntW lim lim w w' := fun b o v ho hv => by
  refine ⟨ho, ?_⟩
  rcases h.ints b o v hv with q | ⟨hm, q⟩
  · exact .inl q
  · exact .inr q
theorem Marked.append {w w' w'' : World} {l1 l2 : List (Nat × Nat)} {k : Int} (h : Marked w l1 k w') (h' : Marked w' l2 (k + l1.length) w'') : Marked w (l1 ++ l2) k w'' := by
  refine ⟨Nat.le_trans h.size h'.size, fun b hb hq => ?_, fun b vs e hb => ?_, fun b o v hn hv => ?_, fun b o v hv => ?_, fun hn j q hj => ?_, h'.os.trans h.os, h'.tape.trans h.tape, h'.out.trans h.out⟩
  · rw [h'.other b (Nat.lt_of_lt_of_le hb h.size) fun q hq' => hq q (List.mem_append_right _ hq'), h.other b hb fun q hq' => hq q (List.mem_append_left _ hq')]
  · obtain ⟨vs1, q1, q2⟩ := h.cells b vs e hb
    obtain ⟨vs2, q3, q4⟩ := h'.cells b vs1 e q1
    exact ⟨vs2, q3, q4.trans q2⟩
  · exact h'.off b o v (fun hm => hn (List.mem_append_right _ hm)) (h.off b o v (fun hm => hn (List.mem_append_left _ hm)) hv)
  · rcases h.ints b o v hv with q | ⟨hm, hk, m, q⟩
    · rcases h'.ints b o v q with q | ⟨hm, q⟩
      · exact .inl q
      · exact .inr ⟨List.mem_append_right _ hm, q⟩
    · rcases h'.ints b o _ q with q | ⟨hm', _, m2, q⟩
      · exact .inr ⟨List.mem_append_left _ hm, hk, m, q⟩
      · exact .inr ⟨List.mem_append_left _ hm, hk, m2, by rw [q, mkV_mkV _ _ hk]⟩
  · obtain ⟨n1, n2, n3⟩ := List.nodup_append.1 hn
    by_cases hjl : j < l1.length
    · rw [List.getElem?_append_left hjl] at hj
      have hm := List.mem_of_getElem? hj
      obtain ⟨v, e1, e2⟩ := h.at_ n1 j q hj
      exact ⟨v, e1, h'.off q.1 q.2 _ (fun hm' => n3 q hm q hm' rfl) e2⟩
    · rw [List.getElem?_append_right (by omega)] at hj
      have := h'.at_ n2 _ q hj
      rwa [show k + (l1.length : Int) + ((j - l1.length : Nat) : Int) = k + (j : Int) by omega] at this

def MKs (P : Program) (f : FuncId) (s : Sh) : Prop := Enters P f ∧ ∀ (lim : Nat → Nat) (w : World) (v : Value) (as : List (Nat × Nat)) (k : Int), Lv lim w s v as → (∀ q ∈ as, Wr w q) → 0 ≤ k → k + as.length ≤ 4611686018427387904 →
  Calls P f #[v, .int .i64 k] w fun e w' => e = .returned (.int .i64 (k + as.length)) ∧ w' = wrs w as k
def HDs (P : Program) (f : FuncId) (s : Sh) : Prop := Enters P f ∧ ∀ (lim : Nat → Nat) (w : World) (v : Value) (as : List (Nat × Nat)) (k : Int), Lv lim w s v as → (∀ (j : Nat) q, as[j]? = some q → HvC w q (k + j)) → 0 ≤ k → k + as.length ≤ 4611686018427387904 →
  Calls P f #[v, .int .i64 k] w fun e w' => e = .returned (.int .i64 (k + as.length)) ∧ w' = w
def MKa (P : Program) (f : FuncId) (fs : Fs) : Prop := Enters P f ∧ ∀ (lim : Nat → Nat) (w : World) (vs : List Value) (as : List (Nat × Nat)) (k : Int), vs.length = fs.len → LvA lim w fs vs as → (∀ q ∈ as, Wr w q) → 0 ≤ k → k + as.length ≤ 4611686018427387904 →
  Calls P f #[.agg vs.toArray, .int .i64 k] w fun e w' => e = .returned (.int .i64 (k + as.length)) ∧ Marked w as k w'
def HDa (P : Program) (f : FuncId) (fs : Fs) : Prop := Enters P f ∧ ∀ (lim : Nat → Nat) (w : World) (vs : List Value) (as : List (Nat × Nat)) (k : Int), vs.length = fs.len → LvA lim w fs vs as → (∀ (j : Nat) q, as[j]? = some q → HvC w q (k + j)) → 0 ≤ k → k + as.length ≤ 4611686018427387904 →
  Calls P f #[.agg vs.toArray, .int .i64 k] w fun e w' => e = .returned (.int .i64 (k + as.length)) ∧ Grown w w'

section steps
variable {lim : Nat → Nat} {w : World}
theorem wrs_LvF {fs : Fs} {b o : Nat} {l1 l2 : List (Nat × Nat)} {k : Int} (h : LvF lim w fs b o l2) (hw1 : ∀ q ∈ l1, Wr w q) (hi1 : ∀ q ∈ l1, MkC w q) : LvF lim (wrs w l1 k) fs b o l2 :=
  LvF.mono (wrs_intW hw1 hi1) fs b o l2 h
theorem LvF.sub_step {s : Sh} {r : Fs} {b o : Nat} {as : List (Nat × Nat)} (h : LvF lim w (.sub s r) b o as) : ∃ v l1 l2, as = l1 ++ l2 ∧ cellAt w b o = some v ∧ Lv lim w s v l1 ∧ LvF lim w r b (o + 1) l2 ∧
    ∀ k, (∀ q ∈ l1, Wr w q) → (∀ q ∈ l2, Wr w q) → LvF lim (wrs w l1 k) r b (o + 1) l2 ∧ ∀ q ∈ l2, Wr (wrs w l1 k) q := by
  unfold LvF at h
  obtain ⟨v, l1, l2, h1, h2, h3, h4, h5⟩ := h
  exact ⟨v, l1, l2, h1, h3, h4, h5, fun k q1 q2 => ⟨wrs_LvF h5 q1 fun q hq => (Lv.ints s v l1 h4 q hq).2, fun q hq => wrs_Wr q1 q (q2 q hq)⟩⟩
theorem LvF.cell_step {r : Fs} {b o : Nat} {as : List (Nat × Nat)} (h : LvF lim w (.cell r) b o as) : ∃ l m, as = (b, o) :: l ∧ cellAt w b o = some (.int .i64 m) ∧ LvF lim w r b (o + 1) l ∧
    ∀ k, Wr w (b, o) → (∀ q ∈ l, Wr w q) → LvF lim (wr w (b, o) k) r b (o + 1) l ∧ ∀ q ∈ l, Wr (wr w (b, o) k) q := by
  unfold LvF at h
  obtain ⟨l, h1, h2, ⟨m, h3⟩, h4⟩ := h
  exact ⟨l, m, h1, h3, h4, fun k q1 q2 => ⟨LvF.mono (wr_intW q1 (MkC.int h3)) r b _ l h4, fun q hq => q1.wr (q2 q hq)⟩⟩
theorem LvF.flag_step {r : Fs} {b o : Nat} {as : List (Nat × Nat)} (h : LvF lim w (.flag r) b o as) : ∃ l c, as = (b, o) :: l ∧ cellAt w b o = some (.bool c) ∧ LvF lim w r b (o + 1) l ∧
    ∀ k, Wr w (b, o) → (∀ q ∈ l, Wr w q) → LvF lim (wr w (b, o) k) r b (o + 1) l ∧ ∀ q ∈ l, Wr (wr w (b, o) k) q := by
  unfold LvF at h
  obtain ⟨l, h1, h2, ⟨c, h3⟩, h4⟩ := h
  exact ⟨l, c, h1, h3, h4, fun k q1 q2 => ⟨LvF.mono (wr_intW q1 (MkC.bool h3)) r b _ l h4, fun q hq => q1.wr (q2 q hq)⟩⟩
theorem LvF.skip_step {r : Fs} {b o : Nat} {as : List (Nat × Nat)} (h : LvF lim w (.skip r) b o as) : LvF lim w r b (o + 1) as := by unfold LvF at h; exact h
theorem LvF.nil_step {b o : Nat} {as : List (Nat × Nat)} (h : LvF lim w .nil b o as) : as = [] := by unfold LvF at h; exact h
theorem LvA.sub_step {s : Sh} {r : Fs} {v : Value} {vs : List Value} {as : List (Nat × Nat)} (h : LvA lim w (.sub s r) (v :: vs) as) : ∃ l1 l2, as = l1 ++ l2 ∧ Lv lim w s v l1 ∧ LvA lim w r vs l2 := by
  unfold LvA at h
  obtain ⟨v', l1, l2, h1, h2, h3, h4⟩ := h
  obtain rfl : v = v' := by simpa using h2
  exact ⟨l1, l2, h1, h3, h4⟩
theorem LvA.skip_step {r : Fs} {v : Value} {vs : List Value} {as : List (Nat × Nat)} (h : LvA lim w (.skip r) (v :: vs) as) : LvA lim w r vs as := by unfold LvA at h; exact h
theorem LvA.nil_step {vs : List Value} {as : List (Nat × Nat)} (h : LvA lim w .nil vs as) : as = [] := by unfold LvA at h; exact h
theorem holds_left {l1 l2 : List (Nat × Nat)} {k : Int} (h : ∀ (j : Nat) q, (l1 ++ l2)[j]? = some q → HvC w q (k + j)) : ∀ (j : Nat) q, l1[j]? = some q → HvC w q (k + j) := fun j q hj =>
  h j q (by rw [List.getElem?_append_left (List.getElem?_eq_some_iff.1 hj).1]; exact hj)
theorem holds_right {l1 l2 : List (Nat × Nat)} {k : Int} (h : ∀ (j : Nat) q, (l1 ++ l2)[j]? = some q → HvC w q (k + j)) : ∀ (j : Nat) q, l2[j]? = some q → HvC w q (k + l1.length + j) := fun j q hj => by
  have := h (l1.length + j) q (by rw [List.getElem?_append_right (by omega), Nat.add_sub_cancel_left]; exact hj)
  rwa [show k + ((l1.length + j : Nat) : Int) = k + (l1.length : Int) + (j : Int) by omega] at this
theorem holds_head {p : Nat × Nat} {l : List (Nat × Nat)} {k : Int} (h : ∀ (j : Nat) q, (p :: l)[j]? = some q → HvC w q (k + j)) : HvC w p k := by
  have := h 0 p rfl
  simpa using this
theorem holds_tail {p : Nat × Nat} {l : List (Nat × Nat)} {k : Int} (h : ∀ (j : Nat) q, (p :: l)[j]? = some q → HvC w q (k + j)) : ∀ (j : Nat) q, l[j]? = some q → HvC w q (k + 1 + j) := fun j q hj => by
  have := h (j + 1) q (by simpa using hj)
  rwa [show k + ((j + 1 : Nat) : Int) = k + 1 + (j : Int) by omega] at this
end steps

theorem cellAt_alloc (w : World) (c : Array Value) (t : TypeId) (o : Nat) : cellAt (w.alloc (.cells c t)) w.heap.size o = c[o]? := by
  unfold cellAt World.cell?
  simp only
  rw [heap_alloc_new]
  rfl
/-- A struct's own box stands while marks go on. -/
theorem box_stands {w w1 w2 : World} {l : List (Nat × Nat)} {k : Int} {vs : List Value} (hb : ∀ (j : Nat) u, vs[j]? = some u → cellAt w1 w.heap.size j = some u) (hm : Marked w1 l k w2) (hl : ∀ q ∈ l, Wr w q) : ∀ (j : Nat) u, vs[j]? = some u → cellAt w2 w.heap.size j = some u := fun j u hj =>
  hm.off _ _ _ (fun hmem => by
    obtain ⟨_, _, h1, _⟩ := hl _ hmem
    have := heap_lt h1
    simp at this) (hb j u hj)
theorem int_eq {a b : Int} (h : a = b) : some (Value.int .i64 a) = some (Value.int .i64 b) := by rw [h]
theorem take_flat {α : Type} {ass : List (List α)} {i : Nat} {l : List α} (h : ass[i]? = some l) : (ass.take (i + 1)).flatten = (ass.take i).flatten ++ l := by
  rw [List.take_add_one, h]
  simp

/-- The loop of a marking function. -/
theorem sm_mark_loop {P : Program} {n : Nat} {R : List (Nat × Value) → World → Prop} {kk : List MItem} {E : List (Nat × Value)} {lim : Nat → Nat} {w : World} {fs : Fs} {v : Value} {as : List (Nat × Nat)} {k : Int} {c : Code}
    (h : Lv lim w (.slc fs) v as) (hW : ∀ q ∈ as, Wr w q) (h0 : 0 ≤ k) (hb : k + as.length ≤ 4611686018427387904) (hc : coversM E [(0, v), (1, .int .i64 k), (5, .int .i64 0)])
    (round : ∀ (A : Option Addr) (m cp : Nat), v = .slice A m cp → m ≤ maxLen → ∀ (i : Nat) (k' : Int) (wi : World) (J : List (Nat × Value) → World → Prop), 0 ≤ k' → k' ≤ 4611686018427387904 → i ≤ m → (i < m → ∃ b o l, A = some ⟨b, o, none⟩ ∧ LvF lim wi fs b (o + i * fs.len) l ∧ (∀ q ∈ l, Wr wi q) ∧ k' + l.length ≤ 4611686018427387904 ∧
        ∀ E', coversM E' [(0, .slice A m cp), (1, .int .i64 (k' + l.length)), (5, .int .i64 ((i : Int) + 1))] → J E' (wrs wi l k')) → (i = m → k' = k + as.length ∧ wi = wrs w as k) →
      SM P n R (.code c :: .loopEnd J :: kk) [(0, .slice A m cp), (1, .int .i64 k'), (5, .int .i64 i)] wi) : SM P n R (.code (.loop c) :: kk) E w := by
  unfold Lv at h
  obtain ⟨A, m, cp, b, o, rfl, hm, hA, ass, h4, rfl, h6⟩ := h
  refine sm_loop (fun i => [(0, .slice A m cp), (1, .int .i64 (k + (ass.take i).flatten.length)), (5, .int .i64 i)]) (fun i => wrs w (ass.take i).flatten k) m (by simpa using hc) (by simp [wrs]) fun i hi => ?_
  have hlen : ((ass.take i).flatten.length : Int) ≤ ass.flatten.length := by
    have : ass.flatten = (ass.take i).flatten ++ (ass.drop i).flatten := by rw [← List.flatten_append, List.take_append_drop]
    rw [this, List.length_append]; omega
  refine round A m cp rfl hm i _ _ _ (by omega) (by omega) hi (fun hlt => ?_) (fun he => ?_)
  · have hl : ass[i]? = some ass[i] := List.getElem?_eq_getElem (by omega)
    have hmem1 : ∀ q ∈ (ass.take i).flatten, q ∈ ass.flatten := fun q hq => by
      obtain ⟨l, h1, h2⟩ := List.mem_flatten.1 hq
      exact List.mem_flatten.2 ⟨l, List.mem_of_mem_take h1, h2⟩
    have hmem2 : ∀ q ∈ ass[i], q ∈ ass.flatten := fun q hq => List.mem_flatten.2 ⟨_, List.getElem_mem _, hq⟩
    have hint : ∀ q ∈ (ass.take i).flatten, MkC w q := fun q hq => by
      obtain ⟨l, h1, h2⟩ := List.mem_flatten.1 hq
      obtain ⟨j, hj⟩ := List.getElem?_of_mem (List.mem_of_mem_take h1)
      exact (LvF.ints fs b _ l (h6 j l hj) q h2).2
    have hw1 : ∀ q ∈ (ass.take i).flatten, Wr w q := fun q hq => hW q (hmem1 q hq)
    refine ⟨b, o, ass[i], hA.resolve_left (by omega), wrs_LvF (h6 i _ hl) hw1 hint, fun q hq => wrs_Wr hw1 q (hW q (hmem2 q hq)), ?_, fun E' hE' => ⟨hlt, ?_, ?_⟩⟩
    · have : ((ass.take (i + 1)).flatten.length : Int) ≤ ass.flatten.length := by
        have : ass.flatten = (ass.take (i + 1)).flatten ++ (ass.drop (i + 1)).flatten := by rw [← List.flatten_append, List.take_append_drop]
        rw [this, List.length_append]; omega
      rw [take_flat hl, List.length_append] at this
      omega
    · rw [take_flat hl, List.length_append]
      rw [show k + ((((ass.take i).flatten.length + ass[i].length : Nat)) : Int) = k + ((ass.take i).flatten.length : Int) + (ass[i].length : Int) by omega]
      exact hE'
    · rw [take_flat hl, wrs_append]
  · have : ass.take i = ass := List.take_of_length_le (by omega)
    rw [this]
    exact ⟨rfl, rfl⟩

/-- .. of a checking function. -/
theorem sm_held_loop {P : Program} {n : Nat} {R : List (Nat × Value) → World → Prop} {kk : List MItem} {E : List (Nat × Value)} {lim : Nat → Nat} {w : World} {fs : Fs} {v : Value} {as : List (Nat × Nat)} {k : Int} {c : Code}
    (h : Lv lim w (.slc fs) v as) (hW : ∀ (j : Nat) q, as[j]? = some q → HvC w q (k + j)) (h0 : 0 ≤ k) (hb : k + as.length ≤ 4611686018427387904) (hc : coversM E [(0, v), (1, .int .i64 k), (5, .int .i64 0)])
    (round : ∀ (A : Option Addr) (m cp : Nat), v = .slice A m cp → m ≤ maxLen → ∀ (i : Nat) (k' : Int) (J : List (Nat × Value) → World → Prop), 0 ≤ k' → k' ≤ 4611686018427387904 → i ≤ m → (i < m → ∃ b o l, A = some ⟨b, o, none⟩ ∧ LvF lim w fs b (o + i * fs.len) l ∧ (∀ (j : Nat) q, l[j]? = some q → HvC w q (k' + j)) ∧ k' + l.length ≤ 4611686018427387904 ∧
        ∀ E', coversM E' [(0, .slice A m cp), (1, .int .i64 (k' + l.length)), (5, .int .i64 ((i : Int) + 1))] → J E' w) → (i = m → k' = k + as.length) →
      SM P n R (.code c :: .loopEnd J :: kk) [(0, .slice A m cp), (1, .int .i64 k'), (5, .int .i64 i)] w) : SM P n R (.code (.loop c) :: kk) E w := by
  unfold Lv at h
  obtain ⟨A, m, cp, b, o, rfl, hm, hA, ass, h4, rfl, h6⟩ := h
  refine sm_loop (fun i => [(0, .slice A m cp), (1, .int .i64 (k + (ass.take i).flatten.length)), (5, .int .i64 i)]) (fun _ => w) m (by simpa using hc) rfl fun i hi => ?_
  have hsplit : ass.flatten = (ass.take i).flatten ++ (ass.drop i).flatten := by rw [← List.flatten_append, List.take_append_drop]
  have hlen : ((ass.take i).flatten.length : Int) ≤ ass.flatten.length := by
    rw [hsplit, List.length_append]; omega
  refine round A m cp rfl hm i _ _ (by omega) (by omega) hi (fun hlt => ?_) (fun he => ?_)
  · have hl : ass[i]? = some ass[i] := List.getElem?_eq_getElem (by omega)
    have hsplit2 : ass.flatten = (ass.take i).flatten ++ (ass[i] ++ (ass.drop (i + 1)).flatten) := by
      rw [← List.append_assoc, ← take_flat hl, ← List.flatten_append, List.take_append_drop]
    refine ⟨b, o, ass[i], hA.resolve_left (by omega), h6 i _ hl, ?_, ?_, fun E' hE' => ⟨hlt, ?_, rfl⟩⟩
    · rw [hsplit2] at hW
      exact holds_left (holds_right hW)
    · have := congrArg List.length hsplit2
      simp only [List.length_append] at this
      omega
    · rw [take_flat hl, List.length_append]
      rw [show k + ((((ass.take i).flatten.length + ass[i].length : Nat)) : Int) = k + ((ass.take i).flatten.length : Int) + (ass[i].length : Int) by omega]
      exact hE'
  · have : ass.take i = ass := List.take_of_length_le (by omega)
    rw [this]
end Go.Lg
/-
  Lg, part 36: marks in a statement's own body: a fresh start (what is old stays as it was), the regions that mark, what is known of what was marked.
-/
namespace Go.Lg
open Go Go.RowKit

/-- Nothing old may be changed; labels from N on are new. -/
structure Base.cl (B : Base) (N : Nat) : Prop where
  ab : ∀ b, ¬ B.ab b
  ids : B.ids = []
  lab : ∀ b i r, B.lab b = i :: r → i < N
  lablt : ∀ b, B.lab b ≠ [] → b < B.w.heap.size

def B0 (B : Base) : Ghost := ⟨B.lim, B.lab, fun _ => none, fun _ => none⟩
/-- What was read as 'd' when B began, and still is. -/
def KnI (B : Base) (d : D) : Ghost → World → Value → Prop := fun G w v => Rel (B0 B) B.w d v ∧ Mono (B0 B) G B.w w
def KD (B : Base) (d : D) : D := .pred (KnI B d)
theorem KD_le {B : Base} {d : D} (hi : d.ids = []) (ht : d.tks = []) : D.le (KD B d) d := .kn fun G w v h => by
  cases h with
  | pred hv h =>
    obtain ⟨h1, h2⟩ := h G w (Mono.refl G w)
    exact h1.mono h2 (by rw [hi]; simp) (by rw [ht]; simp)
theorem mono_of_simW {B : Base} {N : Nat} (hc : B.cl N) {bx ro : List (Nat × List D)} {tk : List Nat} {G : Ghost} {w : World} (h : SimW B bx ro tk G w) : Mono (B0 B) G B.w w :=
  ⟨fun b o v h1 h2 => by
    have hb := cell_lt h2
    obtain ⟨q1, q2⟩ := h.olda b hb
    exact ⟨Nat.lt_of_lt_of_le h1 q1, q2 o v h1 h2⟩, fun b hb => h.oldl b (hc.lablt b hb) hb⟩

/-- 'd' is read as before when places are written that bear no label beginning with 'i'. -/
def Keep (B : Base) (i : Nat) (d : D) : Prop := ∀ (G : Ghost) (w w' : World) (v : Value), Mono (B0 B) G B.w w' → (∀ b o u, ¬ ([i] <+: G.lab b) → cellAt w b o = some u → cellAt w' b o = some u) → Rel G w d v → Rel G w' d v
theorem keep_plain {B : Base} {i : Nat} {d : D} (h : d.plain = true) : Keep B i d := fun _ _ _ _ _ _ hr => plain_rel h hr
theorem keep_int (B : Base) (i : Nat) (k : IntKind) (n : Int) : Keep B i (.int k n) := keep_plain rfl
theorem keep_bool (B : Base) (i : Nat) (b : Bool) : Keep B i (.bool b) := keep_plain rfl
theorem keep_box (B : Base) (i : Nat) (id off : Nat) : Keep B i (.box id off) := fun _ _ _ _ _ _ hr => by cases hr with | box hb => exact .box hb
theorem keep_raw (B : Base) (i : Nat) (u : Value) : Keep B i (.raw u) := fun _ _ _ _ _ _ hr => by cases hr with | raw hb => exact .raw hb
theorem keep_KD (B : Base) (i : Nat) (d : D) : Keep B i (KD B d) := fun G w w' v hm _ hr => by
  cases hr with
  | pred hv h => exact .pred hv fun G2 w2 hm2 => ⟨(h G w (Mono.refl G w)).1, hm.trans hm2⟩
theorem keep_LT {B : Base} {i j : Nat} {s : Sh} {q : List Nat} {d : D} {n : Nat} (h : LT s (j :: q) d n) (hij : i ≠ j) : Keep B i d := fun G w w' v _ hf hr =>
  LT.keeps s (j :: q) d n h (by simp) (fun b o u hb hu => hf b o u (fun hp => hij (by
    have h1 := pre_eq hp ((List.prefix_append [j] q).trans hb) rfl
    simpa using h1)) hu) v hr

/-- The model's part of it: the places written are new and labelled. -/
theorem marked_sim {B : Base} {L : LS} {G : Ghost} {a : Act} {w w' : World} {qs : List (Nat × Nat)} {k : Int} (hs : Sim B L G a w) (hm : Marked w qs k w') (hnew : ∀ q ∈ qs, B.w.heap.size ≤ q.1) (hlab : ∀ q ∈ qs, G.lab q.1 ≠ [])
    {L' : LS} (hL : L'.n = L.n ∧ L'.fix = L.fix ∧ L'.toks = []) (henv : ∀ t d, look L'.env t = some d → ∃ v, a.tmps[t]? = some v ∧ Rel G w' d v)
    (hbx : ∀ id cs, look L'.boxes id = some cs → ∃ cs0, look L.boxes id = some cs0 ∧ cs0.length = cs.length ∧ ∀ (g : Nat) (vs : Array Value) (e : TypeId), G.β id = some g → w.heap[g]? = some (.cells vs e (0, 0)) → (∀ (j : Nat) d v, cs0[j]? = some d → vs[j]? = some v → Rel G w d v) → ∀ (j : Nat) d v, cs[j]? = some d → vs[j]? = some v → Rel G w' d v)
    (hro : ∀ id cs, look L'.ro id = some cs → ∃ cs0, look L.ro id = some cs0 ∧ cs0.length = cs.length ∧ ∀ (vl : List Value), (∀ (j : Nat) d v, cs0[j]? = some d → vl[j]? = some v → Rel G w d v) → ∀ (j : Nat) d v, cs[j]? = some d → vl[j]? = some v → Rel G w' d v) : Sim B L' G a w' := by
  have hW := hs.W
  have hβ : ∀ i g, G.β i = some g → ∀ q ∈ qs, q.1 ≠ g := fun i g hi q hq e => hlab q hq (by rw [e]; exact hW.blab i g hi)
  have hold : ∀ b, b < B.w.heap.size → w'.heap[b]? = w.heap[b]? := fun b hb => hm.other b (Nat.lt_of_lt_of_le hb hW.sz) fun q hq e => by have := hnew q hq; omega
  refine ⟨hs.defers, by rw [hL.1]; exact hs.size, henv, ?_, by rw [hL.2.1]; exact hs.fixed⟩
  exact {
    boxes := fun id cs hl => by
      obtain ⟨cs0, h0, h1, h2⟩ := hbx id cs hl
      obtain ⟨g, q1, ⟨vs, e, e1, e2, e3⟩, q3⟩ := hW.boxes id cs0 h0
      exact ⟨g, q1, ⟨vs, e, by rw [hm.other g (heap_lt e1) (hβ id g q1)]; exact e1, by rw [← h1]; exact e2, h2 g vs e q1 e1 e3⟩, q3⟩
    robs := fun id cs hl => by
      obtain ⟨cs0, h0, h1, h2⟩ := hro id cs hl
      obtain ⟨g, q1, ⟨vs, e, e1, e2, e3⟩, q3⟩ := hW.robs id cs0 h0
      exact ⟨g, q1, ⟨vs, e, by rw [hm.other g (heap_lt e1) (hβ id g q1)]; exact e1, by rw [← h1]; exact e2, fun j d v hd hv => h2 vs.toList (fun j d v hd hv => e3 j d v hd (by simpa using hv)) j d v hd (by simpa using hv)⟩, q3⟩
    toks := fun k hk => by rw [hL.2.2] at hk; cases hk
    tau := fun k g e z hk => by
      obtain ⟨h1, h2, ⟨cur, h3, h4⟩, h5⟩ := hW.tau k g e z hk
      obtain ⟨cur', h6, h7⟩ := hm.cells g cur e h3
      exact ⟨h1, h2, ⟨cur', h6, by omega⟩, h5⟩
    tinj := hW.tinj
    binj := hW.binj
    blt := fun i g hi => Nat.lt_of_lt_of_le (hW.blt i g hi) hm.size
    lablt := fun b hb => Nat.lt_of_lt_of_le (hW.lablt b hb) hm.size
    old := fun b hb hab => by rw [hold b hb]; exact hW.old b hb hab
    olda := fun b hb => by
      obtain ⟨q1, q2⟩ := hW.olda b hb
      exact ⟨q1, fun o v ho hv => by rw [cell_of_heap (hold b hb)]; exact q2 o v ho hv⟩
    oldl := hW.oldl
    tlab := hW.tlab
    blab := hW.blab
    oldu := hW.oldu
    labw := fun b hb hor => by
      obtain ⟨vs, e, h1⟩ := hW.labw b hb hor
      obtain ⟨vs', h2, _⟩ := hm.cells b vs e h1
      exact ⟨vs', e, h2⟩
    ids := hW.ids
    sz := Nat.le_trans hW.sz hm.size
    os := hm.os.trans hW.os
    tape := hm.tape.trans hW.tape
    out := hm.out.trans hW.out }

/-- Labelled places are new, and may be written. -/
theorem lab_new {B : Base} {N i : Nat} {bx ro : List (Nat × List D)} {tk : List Nat} {G : Ghost} {w : World} (hc : B.cl N) (hW : SimW B bx ro tk G w) (hi : N ≤ i) {b : Nat} (hb : [i] <+: G.lab b) : B.w.heap.size ≤ b ∧ G.lab b ≠ [] ∧ ∃ vs e, w.heap[b]? = some (.cells vs e (0, 0)) := by
  have hne : G.lab b ≠ [] := fun e => by rw [e] at hb; simpa using hb.length_le
  have hge : B.w.heap.size ≤ b := by
    refine Nat.le_of_not_lt fun hlt => ?_
    by_cases hl : B.lab b = []
    · exact hne (hW.oldu b hlt (hc.ab b) hl)
    · have h1 := hW.oldl b hlt hl
      obtain ⟨r, hr⟩ := hb
      have := hc.lab b i r (by rw [← h1, ← hr]; rfl)
      omega
  exact ⟨hge, hne, hW.labw b hne (.inl hge)⟩
theorem lab_Wr {B : Base} {N i : Nat} {bx ro : List (Nat × List D)} {tk : List Nat} {G : Ghost} {w : World} (hc : B.cl N) (hW : SimW B bx ro tk G w) (hi : N ≤ i) {q : Nat × Nat} (hb : [i] <+: G.lab q.1) {m : Value} (hv : cellAt w q.1 q.2 = some m) : Wr w q := by
  obtain ⟨_, _, vs, e, h⟩ := lab_new hc hW hi hb
  refine ⟨vs, e, h, ?_⟩
  simp only [cellAt, World.cell?, h] at hv
  exact (Array.getElem?_eq_some_iff.1 (by simpa using hv)).1

/-! What is known of a value that was marked. -/
def HeldI (s : Sh) (k : Int) (n : Nat) : Ghost → World → Value → Prop := fun G w v => ∃ qs, Lv G.lim w s v qs ∧ qs.length = n ∧ ∀ (j : Nat) q, qs[j]? = some q → HvC w q (k + j)
theorem HeldI.mono {s : Sh} {k : Int} {n : Nat} {G G' : Ghost} {w w' : World} {v : Value} (hm : Mono G G' w w') (h : HeldI s k n G w v) : HeldI s k n G' w' v := by
  obtain ⟨qs, h1, h2, h3⟩ := h
  refine ⟨qs, Lv.mono (fun b o v h1 h2 => ⟨(hm.cell b o v h1 h2).1, .inl (hm.cell b o v h1 h2).2⟩) s v qs h1, h2, fun j q hj => ?_⟩
  obtain ⟨v0, e1, e2⟩ := h3 j q hj
  exact ⟨v0, e1, (hm.cell _ _ _ (Lv.ints s v qs h1 q (List.mem_of_getElem? hj)).1 e2).2⟩
def HD (s : Sh) (k : Int) (n : Nat) : D := .pred (HeldI s k n)
theorem Lv.noagg {lim : Nat → Nat} {w : World} {s : Sh} {v : Value} {qs : List (Nat × Nat)} (h : Lv lim w s v qs) : ∀ cs, v ≠ .agg cs := fun cs e => by
  obtain ⟨A, n, c, h⟩ := h.slice
  rw [h] at e; cases e
/-- .. of the cells of a struct: before and after. -/
def TA : Fs → List Nat → Nat → Int → List D → List D → Nat → Prop
  | .nil, _, _, _, cs, cs', n => cs = [] ∧ cs' = [] ∧ n = 0
  | .cell _, _, _, _, _, _, _ => False
  | .flag _, _, _, _, _, _, _ => False
  | .skip r, p, j, k, cs, cs', n => ∃ c t t', cs = c :: t ∧ cs' = c :: t' ∧ c.plain = true ∧ TA r p (j + 1) k t t' n
  | .sub s r, p, j, k, cs, cs', n => ∃ d m n' t t', cs = d :: t ∧ cs' = HD s k m :: t' ∧ n = m + n' ∧ LT s (p ++ [j]) d m ∧ TA r p (j + 1) (k + m) t t' n'
theorem TA.len : ∀ (fs : Fs) (p : List Nat) (j : Nat) (k : Int) (cs cs' : List D) (n : Nat), TA fs p j k cs cs' n → cs.length = fs.len ∧ cs'.length = cs.length
  | .nil, p, j, k, cs, cs', n, h => by
    unfold TA at h
    obtain ⟨rfl, rfl, _⟩ := h
    exact ⟨rfl, rfl⟩
  | .cell _, _, _, _, _, _, _, h => by unfold TA at h; exact h.elim
  | .flag _, _, _, _, _, _, _, h => by unfold TA at h; exact h.elim
  | .skip r, p, j, k, cs, cs', n, h => by
    unfold TA at h
    obtain ⟨c, t, t', rfl, rfl, _, h⟩ := h
    obtain ⟨h1, h2⟩ := TA.len r _ _ _ _ _ _ h
    simp [Fs.len, h1, h2]
  | .sub s r, p, j, k, cs, cs', n, h => by
    unfold TA at h
    obtain ⟨d, m, n', t, t', rfl, rfl, _, _, h⟩ := h
    obtain ⟨h1, h2⟩ := TA.len r _ _ _ _ _ _ h
    simp [Fs.len, h1, h2]
theorem TA.lv {G : Ghost} {w : World} : ∀ (fs : Fs) (p : List Nat) (j : Nat) (k : Int) (cs cs' : List D) (n : Nat), TA fs p j k cs cs' n → ∀ vl : List Value, vl.length = cs.length → (∀ (i : Nat) d v, cs[i]? = some d → vl[i]? = some v → Rel G w d v) →
    ∃ qs, LvA G.lim w fs vl qs ∧ qs.length = n ∧ qs.Nodup ∧ (∀ q ∈ qs, ∃ j', j ≤ j' ∧ (p ++ [j']) <+: G.lab q.1) ∧
      ∀ w', IntW G.lim G.lim w w' → (∀ (i : Nat) q, qs[i]? = some q → HvC w' q (k + i)) → ∀ (i : Nat) d v, cs'[i]? = some d → vl[i]? = some v → Rel G w' d v
  | .nil, p, j, k, cs, cs', n, h, vl, hl, hr => by
    unfold TA at h
    obtain ⟨rfl, rfl, rfl⟩ := h
    exact ⟨[], by unfold LvA; rfl, rfl, by simp, by simp, fun _ _ _ i d v hd => by simp at hd⟩
  | .cell _, _, _, _, _, _, _, h, _, _, _ => by unfold TA at h; exact h.elim
  | .flag _, _, _, _, _, _, _, h, _, _, _ => by unfold TA at h; exact h.elim
  | .skip r, p, j, k, cs, cs', n, h, vl, hl, hr => by
    unfold TA at h
    obtain ⟨c, t, t', rfl, rfl, hp, h⟩ := h
    cases vl with
    | nil => simp at hl
    | cons v0 vl =>
      obtain ⟨qs, h1, h2, h3, h4, h5⟩ := TA.lv r p (j + 1) k t t' n h vl (by simpa using hl) (fun i d v hd hv => hr (i + 1) d v (by simpa using hd) (by simpa using hv))
      refine ⟨qs, by unfold LvA; exact h1, h2, h3, fun q hq => let ⟨j', a, b⟩ := h4 q hq; ⟨j', by omega, b⟩, fun w' hI hc i d v hd hv => ?_⟩
      cases i with
      | zero =>
        simp at hd hv
        subst hd; subst hv
        exact plain_rel hp (hr 0 _ _ rfl rfl)
      | succ i => exact h5 w' hI hc i d v (by simpa using hd) (by simpa using hv)
  | .sub s r, p, j, k, cs, cs', n, h, vl, hl, hr => by
    unfold TA at h
    obtain ⟨d, m, n', t, t', rfl, rfl, rfl, hT, h⟩ := h
    cases vl with
    | nil => simp at hl
    | cons v0 vl =>
      obtain ⟨l2, h1, h2, h3, h4, h5⟩ := TA.lv r p (j + 1) (k + m) t t' n' h vl (by simpa using hl) (fun i d v hd hv => hr (i + 1) d v (by simpa using hd) (by simpa using hv))
      obtain ⟨l1, m1, m2, m3, m4⟩ := LT.lv (G := G) (w := w) s (p ++ [j]) d m hT (by simp) v0 (hr 0 _ _ rfl rfl)
      refine ⟨l1 ++ l2, ?_, by simp [m2, h2], List.nodup_append.2 ⟨m3, h3, fun x hx y hy hxy => ?_⟩, fun q hq => ?_, fun w' hI hc i d' v hd hv => ?_⟩
      · unfold LvA
        exact ⟨v0, l1, l2, rfl, rfl, m1, h1⟩
      · subst hxy
        obtain ⟨j', q1, q2⟩ := h4 x hy
        have := pre_eq (m4 x hx) q2 (by simp)
        simp at this
        omega
      · rcases List.mem_append.1 hq with hq | hq
        · exact ⟨j, Nat.le_refl _, m4 q hq⟩
        · obtain ⟨j', q1, q2⟩ := h4 q hq
          exact ⟨j', by omega, q2⟩
      · cases i with
        | zero =>
          simp at hd hv
          subst hd; subst hv
          refine .pred m1.noagg fun G2 w2 hm2 => HeldI.mono hm2 ⟨l1, Lv.mono hI s _ l1 m1, m2, holds_left hc⟩
        | succ i =>
          refine h5 w' hI (fun i q hi => ?_) i d' v (by simpa using hd) (by simpa using hv)
          have := holds_right hc i q hi
          rw [m2] at this
          exact this

/-- A call of a checking function. -/
theorem simW_grown {B : Base} {bx ro : List (Nat × List D)} {tk : List Nat} {G : Ghost} {w w' : World} (h : SimW B bx ro tk G w) (hg : Grown w w') : SimW B bx ro tk G w' := by
  have hmn : Mono G G w w' := ⟨fun b o v h1 h2 => ⟨h1, by
    have : w'.cell? ⟨b, o, none⟩ = some v := hg.cellAt h2
    exact this⟩, fun _ _ => rfl⟩
  have rG : ∀ {d v}, Rel G w d v → Rel G w' d v := fun hr => hr.mono hmn (fun _ _ _ h => h) (fun k _ => .inr ⟨rfl, fun g e z hk => ⟨rfl, by
    obtain ⟨_, _, ⟨cur, h3, _⟩, _⟩ := h.tau k g e z hk
    exact shape_of_heap (hg.old g (heap_lt h3))⟩⟩)
  have hbox : ∀ {g cs}, BoxAt G w g cs → BoxAt G w' g cs := fun ⟨vs, e, e1, e2, e3⟩ => ⟨vs, e, by rw [hg.old _ (heap_lt e1)]; exact e1, e2, fun j d v hd hv => rG (e3 j d v hd hv)⟩
  exact {
    boxes := fun id cs hl => let ⟨g, q1, q2, q3⟩ := h.boxes id cs hl; ⟨g, q1, hbox q2, q3⟩
    robs := fun id cs hl => let ⟨g, q1, q2, q3⟩ := h.robs id cs hl; ⟨g, q1, hbox q2, q3⟩
    toks := h.toks
    tau := fun k g e z hk => by
      obtain ⟨h1, h2, ⟨cur, h3, h4⟩, h5⟩ := h.tau k g e z hk
      exact ⟨h1, h2, ⟨cur, by rw [hg.old _ (heap_lt h3)]; exact h3, h4⟩, h5⟩
    tinj := h.tinj
    binj := h.binj
    blt := fun i g hi => Nat.lt_of_lt_of_le (h.blt i g hi) hg.size
    lablt := fun b hb => Nat.lt_of_lt_of_le (h.lablt b hb) hg.size
    old := fun b hb hab => by rw [hg.old b (Nat.lt_of_lt_of_le hb h.sz)]; exact h.old b hb hab
    olda := fun b hb => by
      obtain ⟨q1, q2⟩ := h.olda b hb
      exact ⟨q1, fun o v ho hv => by rw [cell_of_heap (hg.old b (Nat.lt_of_lt_of_le hb h.sz))]; exact q2 o v ho hv⟩
    oldl := h.oldl
    tlab := h.tlab
    blab := h.blab
    oldu := h.oldu
    labw := fun b hb hor => by
      obtain ⟨vs, e, h1⟩ := h.labw b hb hor
      exact ⟨vs, e, by rw [hg.old _ (heap_lt h1)]; exact h1⟩
    ids := h.ids
    sz := Nat.le_trans h.sz hg.size
    os := hg.os.trans h.os
    tape := hg.tape.trans h.tape
    out := hg.out.trans h.out }
theorem sim_ret {B : Base} {L : LS} {G : Ghost} {a : Act} {w w' : World} (h : Sim B L G a w) (hg : Grown w w') {v : Value} {d : D} (hr : Rel G w' d v) : Sim B ⟨1, [(0, d)], [], [], [], L.fix⟩ G ⟨#[v], []⟩ w' :=
  by
    refine ⟨rfl, rfl, fun t d' hd => ?_, (simW_grown h.W hg).less (bx' := []) (ro' := []) (tk' := []) (by simp) (by simp) (by simp), h.fixed⟩
    simp only [look] at hd
    split at hd
    · rename_i e
      subst e
      obtain rfl := Option.some.inj hd
      exact ⟨v, rfl, hr⟩
    · cases hd
theorem held_fc {S : Setup} {f : FuncId} {s : Sh} (hd : HDs S.P f s) {k : Int} {n : Nat} (h0 : 0 ≤ k) (hb : k + n ≤ 4611686018427387904) : FC S f [] [] [] [HD s k n, .int .i64 k] (.int .i64 (k + n)) [] [] :=
  ⟨hd.1, fun w G vals hs => by
    obtain ⟨v0, e0, r0⟩ := hs.env 0 (HD s k n) rfl
    obtain ⟨v1, e1, r1⟩ := hs.env 1 (.int .i64 k) rfl
    cases r1
    cases r0 with
    | pred hv h =>
    obtain ⟨qs, q1, q2, q3⟩ := h G w (Mono.refl G w)
    have hsz : vals.size = 2 := hs.size
    have hvals : vals = #[v0, .int .i64 k] := by
      apply Array.ext_getElem?
      intro i
      match i with
      | 0 => rw [e0]; rfl
      | 1 => rw [e1]; rfl
      | i + 2 => rw [Array.getElem?_eq_none (by omega), Array.getElem?_eq_none (by simp)]
    subst hvals
    have hn : k + (qs.length : Int) ≤ 4611686018427387904 := by rw [q2]; exact hb
    refine (hd.2 G.lim w v0 qs k q1 q3 h0 hn).mono ?_
    rintro e w' ⟨rfl, rfl⟩
    exact ⟨_, G, rfl, sim_ret hs (Grown.refl _) (by rw [q2]; exact .int)⟩⟩
/-- the cells of a marked struct -/
def HF : Fs → Int → List D → Nat → Prop
  | .nil, _, cs, n => cs = [] ∧ n = 0
  | .cell _, _, _, _ => False
  | .flag _, _, _, _ => False
  | .skip r, k, cs, n => ∃ c t, cs = c :: t ∧ HF r k t n
  | .sub s r, k, cs, n => ∃ m n' t, cs = HD s k m :: t ∧ n = m + n' ∧ HF r (k + m) t n'
theorem HF.lv {G : Ghost} {w : World} : ∀ (fs : Fs) (k : Int) (cs : List D) (n : Nat), HF fs k cs n → ∀ vl : List Value, vl.length = cs.length → (∀ (i : Nat) d v, cs[i]? = some d → vl[i]? = some v → Rel G w d v) →
    vl.length = fs.len ∧ ∃ qs, LvA G.lim w fs vl qs ∧ qs.length = n ∧ ∀ (i : Nat) q, qs[i]? = some q → HvC w q (k + i)
  | .nil, k, cs, n, h, vl, hl, hr => by
    unfold HF at h
    obtain ⟨rfl, rfl⟩ := h
    exact ⟨by simpa [Fs.len] using hl, [], by unfold LvA; rfl, rfl, by simp⟩
  | .cell _, _, _, _, h, _, _, _ => by unfold HF at h; exact h.elim
  | .flag _, _, _, _, h, _, _, _ => by unfold HF at h; exact h.elim
  | .skip r, k, cs, n, h, vl, hl, hr => by
    unfold HF at h
    obtain ⟨c, t, rfl, h⟩ := h
    cases vl with
    | nil => simp at hl
    | cons v0 vl =>
      obtain ⟨h0, qs, h1, h2, h3⟩ := HF.lv r k t n h vl (by simpa using hl) (fun i d v hd hv => hr (i + 1) d v (by simpa using hd) (by simpa using hv))
      exact ⟨by simp [Fs.len, h0], qs, by unfold LvA; exact h1, h2, h3⟩
  | .sub s r, k, cs, n, h, vl, hl, hr => by
    unfold HF at h
    obtain ⟨m, n', t, rfl, rfl, h⟩ := h
    cases vl with
    | nil => simp at hl
    | cons v0 vl =>
      obtain ⟨h0, l2, h1, h2, h3⟩ := HF.lv r (k + m) t n' h vl (by simpa using hl) (fun i d v hd hv => hr (i + 1) d v (by simpa using hd) (by simpa using hv))
      have r0 := hr 0 _ v0 rfl rfl
      cases r0 with
      | pred hv hh =>
      obtain ⟨l1, m1, m2, m3⟩ := hh G w (Mono.refl G w)
      refine ⟨by simp [Fs.len, h0], l1 ++ l2, by unfold LvA; exact ⟨v0, l1, l2, rfl, rfl, m1, h1⟩, by simp [m2, h2], fun i q hi => ?_⟩
      by_cases hil : i < l1.length
      · rw [List.getElem?_append_left hil] at hi
        exact m3 i q hi
      · rw [List.getElem?_append_right (by omega)] at hi
        have := h3 _ q hi
        rwa [show k + (m : Int) + ((i - l1.length : Nat) : Int) = k + (i : Int) by omega] at this
theorem heldA_fc {S : Setup} {f : FuncId} {fs : Fs} (hd : HDa S.P f fs) {k : Int} {n : Nat} {cs : List D} (hcs : HF fs k cs n) (h0 : 0 ≤ k) (hb : k + n ≤ 4611686018427387904) : FC S f [] [] [] [.agg cs, .int .i64 k] (.int .i64 (k + n)) [] [] :=
  ⟨hd.1, fun w G vals hs => by
    obtain ⟨v0, e0, r0⟩ := hs.env 0 (.agg cs) rfl
    obtain ⟨v1, e1, r1⟩ := hs.env 1 (.int .i64 k) rfl
    cases r1
    cases r0 with
    | @agg _ vl hl hr =>
    obtain ⟨q0, qs, q1, q2, q3⟩ := HF.lv fs k cs n hcs vl hl hr
    have hsz : vals.size = 2 := hs.size
    have hvals : vals = #[.agg vl.toArray, .int .i64 k] := by
      apply Array.ext_getElem?
      intro i
      match i with
      | 0 => rw [e0]; rfl
      | 1 => rw [e1]; rfl
      | i + 2 => rw [Array.getElem?_eq_none (by omega), Array.getElem?_eq_none (by simp)]
    subst hvals
    have hn : k + (qs.length : Int) ≤ 4611686018427387904 := by rw [q2]; exact hb
    refine (hd.2 G.lim w vl qs k q0 q1 q3 h0 hn).mono ?_
    rintro e w' ⟨rfl, hg⟩
    exact ⟨_, G, rfl, sim_ret hs hg (by rw [q2]; exact .int)⟩⟩
end Go.Lg
/-
  Lg, part 37: the fresh start of a statement's body, and the regions that mark.
-/
namespace Go.Lg
open Go Go.RowKit

def kdc (B : Base) : D → D
  | .sl tk xs => KD B (.sl tk xs)
  | d => d
def LS.rebase (L : LS) (B : Base) : LS := ⟨L.n, mapA (kdc B) L.env, [], mapA (List.map (kdc B)) (L.boxes ++ L.ro), [], L.fix⟩

theorem lab_bound (G : Ghost) (n : Nat) (h : ∀ b, G.lab b ≠ [] → b < n) : ∃ N, ∀ b i r, G.lab b = i :: r → i < N := by
  have : ∀ m, ∃ N, ∀ b, b < m → ∀ i r, G.lab b = i :: r → i < N := fun m => by
    induction m with
    | zero => exact ⟨0, fun b hb => absurd hb (Nat.not_lt_zero _)⟩
    | succ m ih =>
      obtain ⟨N, hN⟩ := ih
      cases hm : G.lab m with
      | nil =>
        refine ⟨N, fun b hb i r hl => ?_⟩
        by_cases e : b = m
        · subst e; rw [hm] at hl; cases hl
        · exact hN b (by omega) i r hl
      | cons i0 r0 =>
        refine ⟨max N (i0 + 1), fun b hb i r hl => ?_⟩
        by_cases e : b = m
        · subst e; rw [hm] at hl
          obtain rfl : i0 = i := by simpa using (List.cons.inj hl).1
          omega
        · have := hN b (by omega) i r hl
          omega
  obtain ⟨N, hN⟩ := this n
  exact ⟨N, fun b i r hl => hN b (h b (by rw [hl]; simp)) i r hl⟩

theorem look_append' {α : Type} (l1 l2 : List (Nat × α)) (t : Nat) : look (l1 ++ l2) t = match look l1 t with | some d => some d | none => look l2 t := by
  induction l1 with
  | nil => rfl
  | cons p r ih =>
    obtain ⟨k, x⟩ := p
    by_cases h : k = t <;> simp [look, h, ih]

def noLoop : List VItem → Bool
  | [] => true
  | .loopEnd _ :: _ => false
  | _ :: k => noLoop k
theorem semQ_base {P : Program} {B B1 : Base} {R R1 : LS → Prop} (hT : ∀ G L a w, Sim B1 L G a w → R1 L → ∃ G' L', Sim B L' G' a w ∧ R L') : ∀ (k : List VItem), noLoop k = true → ∀ e a w, semQ P B1 R1 k e a w → semQ P B R k e a w
  | [], _, e, a, w, h => by
    obtain ⟨h1, G, L, h2, h3⟩ := h
    exact ⟨h1, hT G L a w h2 h3⟩
  | .loopEnd _ :: _, hk, _, _, _, _ => by cases hk
  | .inBlock id :: k, hk, e, a, w, h => by
    have ih := semQ_base (P := P) hT k hk
    show Exit.inBlock id (semQ P B R k) e a w
    change Exit.inBlock id (semQ P B1 R1 k) e a w at h
    cases e <;> simp only [Exit.inBlock] at h ⊢ <;> first
      | exact ih _ a w h
      | (split at h <;> rename_i hc <;> (first | rw [if_pos hc] | rw [if_neg hc]) <;> exact ih _ a w h)
  | .code c :: k, hk, e, a, w, h => by
    have ih := semQ_base (P := P) hT k hk
    show Exit.then (fun a w => c.wp P (semQ P B R k) a w) (semQ P B R k) e a w
    change Exit.then (fun a w => c.wp P (semQ P B1 R1 k) a w) (semQ P B1 R1 k) e a w at h
    cases e with
    | normal => exact wp_mono h fun e' a' w' h' => ih e' a' w' h'
    | _ => exact ih _ a w h

/-- What was there before is known for good; the boxes may only be read from now on. -/
theorem sw_rebase {S : Setup} {B : Base} {k : List VItem} {L : LS} {t : Nat} {b : Bool} (hB : B.ids = [] ∧ ∀ b, ¬ B.ab b) (hk : noLoop k = true) (h : ∀ B1 N, B1.cl N → SW S B1 (Ret S [.tmp t] (.bool b) []) k (L.rebase B1)) : SW S B (Ret S [.tmp t] (.bool b) []) k L := by
  intro G a w hs
  obtain ⟨N, hN⟩ := lab_bound G w.heap.size hs.W.lablt
  let B1 : Base := ⟨w, G.lim, G.lab, fun _ => False, []⟩
  have hcl : B1.cl N := ⟨fun _ h => h, rfl, hN, hs.W.lablt⟩
  let G1 : Ghost := { G with τ := fun _ => none }
  have rG : ∀ {d v}, Rel G w d v → Rel G1 w d v := fun hr => hr.mono (show Mono G G1 w w from ⟨fun _ _ _ h1 h2 => ⟨h1, h2⟩, fun _ _ => rfl⟩) (fun _ _ _ h => h) (fun _ _ => .inl rfl)
  have rK : ∀ {d v}, Rel G w d v → Rel G1 w (kdc B1 d) v := fun {d v} hr => by
    cases d with
    | sl tk xs =>
      have h0 : Rel (B0 B1) w (.sl tk xs) v := hr.mono (show Mono G (B0 B1) w w from ⟨fun _ _ _ h1 h2 => ⟨h1, h2⟩, fun _ _ => rfl⟩) (fun i hi => by simp [D.ids] at hi) (fun _ _ => .inl rfl)
      refine .pred (fun cs e => ?_) fun G2 w2 hm => ⟨h0, ⟨fun b o v h1 h2 => hm.cell b o v h1 h2, fun b hb => hm.lab b hb⟩⟩
      subst e; cases hr
    | _ => exact rG hr
  have bK : ∀ {g cs}, BoxAt G w g cs → BoxAt G1 w g (cs.map (kdc B1)) := fun {g cs} ⟨vs, e, e1, e2, e3⟩ => ⟨vs, e, e1, by simpa using e2, fun j d v hd hv => by
    simp only [List.getElem?_map, Option.map_eq_some_iff] at hd
    obtain ⟨d0, hd, rfl⟩ := hd
    exact rK (e3 j d0 v hd hv)⟩
  have hs1 : Sim B1 (L.rebase B1) G1 a w := by
    refine ⟨hs.defers, hs.size, fun t d hd => ?_, ?_, by simp [B1]⟩
    · simp only [LS.rebase, look_mapA, Option.map_eq_some_iff] at hd
      obtain ⟨d0, hd, rfl⟩ := hd
      obtain ⟨v, h1, h2⟩ := hs.env t d0 hd
      exact ⟨v, h1, rK h2⟩
    · exact {
        boxes := fun id cs hl => by cases hl
        robs := fun id cs hl => by
          simp only [LS.rebase, look_mapA, Option.map_eq_some_iff, look_append'] at hl
          obtain ⟨cs0, hl, rfl⟩ := hl
          cases hbx : look L.boxes id with
          | some c =>
            rw [hbx] at hl
            obtain rfl := Option.some.inj hl
            obtain ⟨g, q1, q2, _⟩ := hs.W.boxes id _ hbx
            exact ⟨g, q1, bK q2, hs.W.blt _ _ q1, fun h => h⟩
          | none =>
            rw [hbx] at hl
            obtain ⟨g, q1, q2, _⟩ := hs.W.robs id _ hl
            exact ⟨g, q1, bK q2, hs.W.blt _ _ q1, fun h => h⟩
        toks := fun k hk => by cases hk
        tau := fun k g e z hk => by cases hk
        tinj := fun k k' g e z e' z' hk => by cases hk
        binj := hs.W.binj
        blt := hs.W.blt
        lablt := hs.W.lablt
        old := fun b _ _ => ⟨rfl, rfl⟩
        olda := fun b _ => ⟨Nat.le_refl _, fun o v _ hv => hv⟩
        oldl := fun b _ _ => rfl
        tlab := fun k g e z hk => by cases hk
        blab := hs.W.blab
        oldu := fun b _ _ hb => hb
        labw := fun b hb hor => by
          rcases hor with h | h
          · have := hs.W.lablt b hb
            exact absurd this (Nat.not_lt.2 h)
          · exact h.elim
        ids := fun p hp => by cases hp
        sz := Nat.le_refl _
        os := rfl
        tape := rfl
        out := rfl }
  refine semQ_base (fun G2 L2 a2 w2 h2 hR => ?_) k hk .normal a w (h B1 N hcl G1 a w hs1)
  obtain ⟨d0, hd0, hle, _⟩ := someK_get (show someK (L2.get t) _ from hR)
  obtain ⟨v, e1, e2⟩ := h2.env t d0 hd0
  have e3 : Rel G2 w2 (.bool b) v := e2.le hle
  cases e3
  have W := h2.W
  have hsz := hs.W.sz
  refine ⟨⟨G2.lim, fun b => if b < B.w.heap.size then G2.lab b else [], fun _ => none, fun _ => none⟩, ⟨L2.n, [(t, .bool b)], [], [], [], []⟩, ⟨h2.defers, h2.size, fun t' d' hd => ?_, ?_, by rw [hB.1]; simp⟩, ?_⟩
  · simp only [look] at hd
    split at hd
    · rename_i e; subst e
      obtain rfl := Option.some.inj hd
      exact ⟨_, e1, .bool⟩
    · cases hd
  · have ho : ∀ b, b < B.w.heap.size → w2.heap[b]? = B.w.heap[b]? ∧ G2.lim b = B.lim b := fun b hb => by
      obtain ⟨q1, q2⟩ := W.old b (Nat.lt_of_lt_of_le hb hsz) (fun h => h)
      obtain ⟨q3, q4⟩ := hs.W.old b hb (hB.2 b)
      exact ⟨q1.trans q3, q2.trans q4⟩
    exact {
      boxes := fun id cs hl => by cases hl
      robs := fun id cs hl => by cases hl
      toks := fun k hk => by cases hk
      tau := fun k g e z hk => by cases hk
      tinj := fun k k' g e z e' z' hk => by cases hk
      binj := fun i j g hi => by cases hi
      blt := fun i g hi => by cases hi
      lablt := fun b hb => by
        simp only at hb
        split at hb
        · exact W.lablt b hb
        · exact absurd rfl hb
      old := fun b hb _ => ho b hb
      olda := fun b hb => ⟨Nat.le_of_eq (ho b hb).2.symm, fun o v _ hv => by rw [cell_of_heap (ho b hb).1]; exact hv⟩
      oldl := fun b hb hl => by
        simp only [if_pos hb]
        have h3 := hs.W.oldl b hb hl
        rw [W.oldl b (Nat.lt_of_lt_of_le hb hsz) (show G.lab b ≠ [] by rw [h3]; exact hl)]
        exact h3
      tlab := fun k g e z hk => by cases hk
      blab := fun i g hi => by cases hi
      oldu := fun b hb hab hl => by
        simp only [if_pos hb]
        exact W.oldu b (Nat.lt_of_lt_of_le hb hsz) (fun h => h) (hs.W.oldu b hb hab hl)
      labw := fun b hb hor => by
        simp only at hb
        split at hb
        · rename_i hlt
          rcases hor with h | h
          · omega
          · exact absurd h (hB.2 b)
        · exact absurd rfl hb
      ids := fun p hp => by rw [hB.1] at hp; cases hp
      sz := Nat.le_trans hsz W.sz
      os := W.os.trans hs.W.os
      tape := W.tape.trans hs.W.tape
      out := W.out.trans hs.W.out }
  · show someK _ _
    simp [LS.get, look, someK, resYs, tupD]
    exact .refl _

/-- A statement's body. -/
theorem fc_bodyT {S : Setup} {f : FuncId} {fn : Func} {c : Code} {args : List D} {t : Nat} {b : Bool}
    (hf : S.P.funcs[f]? = some fn) (hb : fn.body = some c) (hname : (fn.name == "runtime.NumGoroutine") = false) (hn : args.length ≤ fn.ntmps) (hres : fn.results = #[.tmp t])
    (h : ∀ B, B.ids = [] ∧ (∀ b, ¬ B.ab b) → SW S B (Ret S [.tmp t] (.bool b) []) [.code c] ⟨fn.ntmps, enumD 0 args, [], [], [], []⟩) : FC S f [] [] [] args (.bool b) [] [] := by
  refine ⟨⟨fn, hf, hname, by rw [hb]; rfl⟩, fun w G vals hs => calls_of_sw hf hb hn hs (h _ ⟨rfl, fun b hb => ?_⟩) fun G' L' a' w' hs' hr => ?_⟩
  · rcases hb with ⟨p, hp, _⟩ | ⟨k, hk, _⟩
    · cases hp
    · cases hk
  obtain ⟨d0, v, ⟨h1, h2⟩, h3, h4⟩ := resY_sound (fn := fn) hs' (by rw [hres]; exact hr)
  refine ⟨v, h3, v, { G' with τ := fun _ => none }, rfl, rfl, rfl, fun t d' hd => ?_, ?_, hs.fixed⟩
  · simp only [look] at hd
    split at hd
    · rename_i ht
      subst ht
      obtain rfl := Option.some.inj hd
      refine ⟨v, rfl, ?_⟩
      exact (h4.le h1).mono (show Mono G' { G' with τ := fun _ => none } w' w' from ⟨fun _ _ _ h1 h2 => ⟨h1, h2⟩, fun _ _ => rfl⟩) (fun _ _ _ h => h) (fun _ _ => .inl rfl)
    · cases hd
  · exact simW_noTok (hs'.W.less h2 (ro' := []) (by simp) (tk' := []) (by simp))

theorem sim_skip {B : Base} {L : LS} {G : Ghost} {a : Act} {w : World} (h : Sim B L G a w) {t : Nat} (v : Value) (ht : ∀ q ∈ L.env, q.1 ≠ t) : Sim B L G (a.put (some t) v) w := by
  refine ⟨h.defers, by simpa [Act.put] using h.size, fun t' d hd => ?_, h.W, h.fixed⟩
  obtain ⟨u, h1, h2⟩ := h.env t' d hd
  refine ⟨u, ?_, h2⟩
  have := ht _ (mem_of_look hd)
  simp only [Act.put]
  rw [Array.getElem?_setIfInBounds_ne (Ne.symm this)]
  exact h1

/-- What may stand in the state behind a mark: what is kept, and the marked value itself. -/
def MkEnv (B : Base) (i : Nat) (L : LS) (A : Nat) (H : D) (env : List (Nat × D)) : Prop := ∀ q ∈ env, (∃ d0, L.get q.1 = some d0 ∧ q.2 = d0 ∧ Keep B i d0) ∨ q.1 = A ∧ q.2 = H
def MkBox (B : Base) (i : Nat) (bx : List (Nat × List D)) (bx' : List (Nat × List D)) : Prop := ∀ q ∈ bx', look bx q.1 = some q.2 ∧ ∀ d ∈ q.2, Keep B i d

section regions
variable {S : Setup} {B : Base} {R : LS → Prop} {kk : List VItem} {L L' : LS} {A M t1 t2 t3 id : Nat} {ty1 ty2 ty3 ty4 : TypeId} {p1 p2 p3 p4 : String} {a1 a2 a3 a4 : Array Edge} {tys : Array TypeId} {f : FuncId} {i n N : Nat} {k : Int}

/-- The region that marks the list in slot A: its counter is in slot M. -/
theorem sw_markS {s : Sh} {d : D} (hc : B.cl N) (hi : N ≤ i) (mk : MKs S.P f s) (hA : L.get A = some d) (hT : LT s [i] d n) (hM : L.get M = some (.int .i64 k)) (h0 : 0 ≤ k) (hb : k + n ≤ 4611686018427387904)
    (hlt : (t1 < L.n ∧ t2 < L.n ∧ t3 < L.n ∧ M < L.n) ∧ t1 ≠ t2 ∧ t1 ≠ M) (hL : L'.n = L.n ∧ L'.fix = L.fix ∧ L'.toks = []) (hne : ∀ q ∈ L'.env, q.1 ≠ t1 ∧ q.1 ≠ t2 ∧ q.1 ≠ t3 ∧ q.1 ≠ M)
    (henv : MkEnv B i L A (HD s k n) L'.env) (hbx : MkBox B i L.boxes L'.boxes) (hro : MkBox B i L.ro L'.ro) (h : SW S B R kk (L'.put M (.int .i64 (k + n)))) :
    SW S B R (.code (.region id [⟨some t1, .move (.tmp A), ty1, p1, a1, none⟩, ⟨some t2, .move (.tmp M), ty2, p2, a2, none⟩, ⟨some t3, .call ⟨.value (.func f), #[.tmp t1, .tmp t2], tys⟩, ty3, p3, a3, none⟩, ⟨some M, .assign (.tmp t3), ty4, p4, a4, none⟩].toArray false) :: kk) L := by
  intro G a w hs
  obtain ⟨vA, eA, rA⟩ := hs.env A d hA
  obtain ⟨vM, eM, rM⟩ := hs.env M _ hM
  cases rM
  obtain ⟨qs, q1, q2, q3, q4⟩ := LT.lv (G := G) (w := w) s [i] d n hT (by simp) vA rA
  have hWr : ∀ q ∈ qs, Wr w q := fun q hq => by
    obtain ⟨_, m, _, hm⟩ := Lv.ints s vA qs q1 q hq
    exact lab_Wr hc hs.W hi (q4 q hq) hm
  have hints : ∀ q ∈ qs, MkC w q := fun q hq => (Lv.ints s vA qs q1 q hq).2
  refine wp_region_lit ?_
  refine wpList_step fun N1 hN1 => ?_
  rw [if_pos (show Region.wanted _ _ = true from rfl)]
  have hr1 : (execOp a.eval ⟨some t1, .move (.tmp A), ty1, p1, a1, none⟩).run S.P w = .ok (.value vA) w := by simp [execOp, Act.eval, eA]
  unfold Oper.wp
  rw [hr1]
  refine hN1 _ _ ?_
  refine wpList_step fun N2 hN2 => ?_
  rw [if_pos (show Region.wanted _ _ = true from rfl)]
  have hsz := hs.size
  have eM1 : (a.put (some t1) vA).tmps[M]? = some (.int .i64 k) := by
    simp only [Act.put]
    rw [Array.getElem?_setIfInBounds_ne hlt.2.2]
    exact eM
  have hr2 : (execOp (a.put (some t1) vA).eval ⟨some t2, .move (.tmp M), ty2, p2, a2, none⟩).run S.P w = .ok (.value (.int .i64 k)) w := by simp [execOp, Act.eval, eM1]
  unfold Oper.wp
  rw [hr2]
  refine hN2 _ _ ?_
  refine wpList_step fun N3 hN3 => ?_
  rw [if_pos (show Region.wanted _ _ = true from rfl)]
  have e1 : ((a.put (some t1) vA).put (some t2) (.int .i64 k)).tmps[t1]? = some vA := by
    simp only [Act.put]
    rw [Array.getElem?_setIfInBounds_ne (Ne.symm hlt.2.1)]
    simp [hsz, hlt.1.1]
  have e2 : ((a.put (some t1) vA).put (some t2) (.int .i64 k)).tmps[t2]? = some (.int .i64 k) := by simp [Act.put, hsz, hlt.1.2.1]
  have hr3 : (execOp ((a.put (some t1) vA).put (some t2) (.int .i64 k)).eval ⟨some t3, .call ⟨.value (.func f), #[.tmp t1, .tmp t2], tys⟩, ty3, p3, a3, none⟩).run S.P w = .ok (.enter f #[vA, .int .i64 k]) w := by
    simp [execOp, resolve, Act.eval, Deferred.ofValue, invoke, enter_run mk.1, e1, e2]
  unfold Oper.wp
  rw [hr3, Oper.upon_enter]
  refine (mk.2 G.lim w vA qs k q1 hWr h0 (by rw [q2]; exact hb)).mono ?_
  rintro e w' ⟨rfl, rfl⟩
  refine hN3 _ _ ?_
  refine wpList_step fun N4 hN4 => ?_
  rw [if_pos (show Region.wanted _ _ = true from rfl)]
  have e3 : (((a.put (some t1) vA).put (some t2) (.int .i64 k)).put (some t3) (.int .i64 (k + qs.length))).tmps[t3]? = some (.int .i64 (k + qs.length)) := by simp [Act.put, hsz, hlt.1.2.2.1]
  have hr4 : (execOp (((a.put (some t1) vA).put (some t2) (.int .i64 k)).put (some t3) (.int .i64 (k + qs.length))).eval ⟨some M, .assign (.tmp t3), ty4, p4, a4, none⟩).run S.P (wrs w qs k) = .ok (.value (.int .i64 (k + qs.length))) (wrs w qs k) := by simp [execOp, Act.eval, e3]
  unfold Oper.wp
  rw [hr4]
  refine hN4 _ _ (wpList_nil ?_)
  have hmk := Marked.of_wrs k hWr hints
  have hI := hmk.intW G.lim hints
  have hm0 := mono_of_simW hc hs.W
  have hmB : Mono (B0 B) G B.w (wrs w qs k) := ⟨fun b o v h1 h2 => by
    obtain ⟨p1, p2⟩ := hm0.cell b o v h1 h2
    refine ⟨p1, ?_⟩
    have := wrs_off (k := k) hWr (b := b) (o := o) (fun hq => by
      have := (lab_new hc hs.W hi (q4 _ hq)).1
      have := cell_lt h2
      simp at *
      omega)
    exact this.trans p2, hm0.lab⟩
  have hfr : ∀ b o u, ¬ ([i] <+: G.lab b) → cellAt w b o = some u → cellAt (wrs w qs k) b o = some u := fun b o u hl hu => by
    rw [wrs_off hWr (fun hq => hl (q4 _ hq))]; exact hu
  have hsim : Sim B L' G a (wrs w qs k) := by
    refine marked_sim hs hmk (fun q hq => (lab_new hc hs.W hi (q4 q hq)).1) (fun q hq => (lab_new hc hs.W hi (q4 q hq)).2.1) hL (fun t d' hd => ?_) (fun id cs hl => ?_) (fun id cs hl => ?_)
    · rcases henv _ (mem_of_look hd) with ⟨d0, k1, k2, k3⟩ | ⟨k1, k2⟩
      · obtain ⟨v, u1, u2⟩ := hs.env t d0 k1
        simp only at k2
        subst k2
        exact ⟨v, u1, k3 G w _ v hmB hfr u2⟩
      · simp only at k1 k2
        subst k1; subst k2
        exact ⟨vA, eA, .pred q1.noagg fun G2 w2 hm2 => HeldI.mono hm2 ⟨qs, Lv.mono hI s _ qs q1, q2, hmk.at_ q3⟩⟩
    · obtain ⟨k1, k2⟩ := hbx _ (mem_of_look hl)
      exact ⟨cs, k1, rfl, fun _ _ _ _ _ hv j d v hd hv' => k2 d (List.mem_of_getElem? hd) G w _ v hmB hfr (hv j d v hd hv')⟩
    · obtain ⟨k1, k2⟩ := hro _ (mem_of_look hl)
      exact ⟨cs, k1, rfl, fun vl hv j d v hd hv' => k2 d (List.mem_of_getElem? hd) G w _ v hmB hfr (hv j d v hd hv')⟩
  have hs1 := sim_skip hsim vA (t := t1) fun q hq => (hne q hq).1
  have hs2 := sim_skip hs1 (.int .i64 k) (t := t2) fun q hq => (hne q hq).2.1
  have hs3 := sim_skip hs2 (.int .i64 (k + qs.length)) (t := t3) fun q hq => (hne q hq).2.2.1
  have hs4 := hs3.put (t := M) (d := .int .i64 (k + qs.length)) (by rw [hL.1]; exact hlt.1.2.2.2) .int
  rw [q2] at hs4 ⊢
  exact h G _ _ hs4

/-- The region that marks the struct in a box. -/
theorem sw_markA {fs : Fs} {cs cs' : List D} {T : TypeId} {j : TyI} {bid : Nat} (hc : B.cl N) (hi : N ≤ i) (mk : MKa S.P f fs) (hA : L.get A = some (.box bid 0)) (hB : look L.boxes bid = some cs) (hT : TA fs [i] 0 k cs cs' n) (hj : S.tab T = some j) (hag : j.agg = true) (hjs : j.size = cs.length)
    (hM : L.get M = some (.int .i64 k)) (h0 : 0 ≤ k) (hb : k + n ≤ 4611686018427387904)
    (hlt : (t1 < L.n ∧ t2 < L.n ∧ t3 < L.n ∧ M < L.n) ∧ t1 ≠ t2 ∧ t1 ≠ M) (hL : L'.n = L.n ∧ L'.fix = L.fix ∧ L'.toks = []) (hne : ∀ q ∈ L'.env, q.1 ≠ t1 ∧ q.1 ≠ t2 ∧ q.1 ≠ t3 ∧ q.1 ≠ M)
    (henv : ∀ q ∈ L'.env, ∃ d0, L.get q.1 = some d0 ∧ q.2 = d0 ∧ Keep B i d0) (hbx : ∀ q ∈ L'.boxes, (look L.boxes q.1 = some q.2 ∧ ∀ d ∈ q.2, Keep B i d) ∨ q.1 = bid ∧ q.2 = cs') (hro : MkBox B i L.ro L'.ro) (h : SW S B R kk (L'.put M (.int .i64 (k + n)))) :
    SW S B R (.code (.region id [⟨some t1, .load T (.tmp A), ty1, p1, a1, none⟩, ⟨some t2, .move (.tmp M), ty2, p2, a2, none⟩, ⟨some t3, .call ⟨.value (.func f), #[.tmp t1, .tmp t2], tys⟩, ty3, p3, a3, none⟩, ⟨some M, .assign (.tmp t3), ty4, p4, a4, none⟩].toArray false) :: kk) L := by
  intro G a w hs
  obtain ⟨vA, eA, rA⟩ := hs.env A _ hA
  obtain ⟨vM, eM, rM⟩ := hs.env M _ hM
  cases rM
  cases rA with
  | @box _ _ g hβ =>
  obtain ⟨g', hβ', ⟨vs, eT, b1, b2, b3⟩, _⟩ := hs.W.boxes bid cs hB
  rw [hβ] at hβ'
  obtain rfl := Option.some.inj hβ'
  obtain ⟨vl, hvd⟩ : ∃ vl, vl = vs.toList.take cs.length := ⟨_, rfl⟩
  have hvget : ∀ (j : Nat) v, vl[j]? = some v → vs[j]? = some v := fun j v hv => by
    rw [hvd, List.getElem?_take] at hv
    split at hv
    · simpa using hv
    · cases hv
  have hvl : vl.length = cs.length := by rw [hvd, List.length_take]; simp only [Array.length_toList]; omega
  obtain ⟨qs, q1, q2, q3, q4, q5⟩ := TA.lv (G := G) (w := w) fs [i] 0 k cs cs' n hT vl hvl (fun j d v hd hv => b3 j d v hd (hvget j v hv))
  have q4' : ∀ q ∈ qs, [i] <+: G.lab q.1 := fun q hq => by
    obtain ⟨j', _, h⟩ := q4 q hq
    exact (List.prefix_append [i] [j']).trans h
  have hints : ∀ q ∈ qs, MkC w q := fun q hq => (LvA.ints fs _ qs q1 q hq).2
  have hWr : ∀ q ∈ qs, Wr w q := fun q hq => by
    obtain ⟨m, _, hm⟩ := hints q hq
    exact lab_Wr hc hs.W hi (q4' q hq) hm
  have hok := S.ok T j hj
  refine wp_region_lit ?_
  refine wpList_step fun N1 hN1 => ?_
  rw [if_pos (show Region.wanted _ _ = true from rfl)]
  have hload := run_loadCells_list (P := S.P) w ⟨g, 0, none⟩ vl (fun i v hi => by
    rw [Addr.add_lit, Nat.zero_add]
    simpa [World.cell?, b1] using hvget i v hi)
  rw [hvl, ← hjs] at hload
  have hr1 : (execOp a.eval ⟨some t1, .load T (.tmp A), ty1, p1, a1, none⟩).run S.P w = .ok (.value (.agg vl.toArray)) w := by
    simp [execOp, Act.eval, eA, Instr.loadAt, Instr.sureAddr, loadVar, run_isAgg hok, hag, run_sizeOf hok, hload]
  unfold Oper.wp
  rw [hr1]
  refine hN1 _ _ ?_
  refine wpList_step fun N2 hN2 => ?_
  rw [if_pos (show Region.wanted _ _ = true from rfl)]
  have hsz := hs.size
  have eM1 : (a.put (some t1) (.agg vl.toArray)).tmps[M]? = some (.int .i64 k) := by
    simp only [Act.put]
    rw [Array.getElem?_setIfInBounds_ne hlt.2.2]
    exact eM
  have hr2 : (execOp (a.put (some t1) (.agg vl.toArray)).eval ⟨some t2, .move (.tmp M), ty2, p2, a2, none⟩).run S.P w = .ok (.value (.int .i64 k)) w := by simp [execOp, Act.eval, eM1]
  unfold Oper.wp
  rw [hr2]
  refine hN2 _ _ ?_
  refine wpList_step fun N3 hN3 => ?_
  rw [if_pos (show Region.wanted _ _ = true from rfl)]
  have e1 : ((a.put (some t1) (.agg vl.toArray)).put (some t2) (.int .i64 k)).tmps[t1]? = some (.agg vl.toArray) := by
    simp only [Act.put]
    rw [Array.getElem?_setIfInBounds_ne (Ne.symm hlt.2.1)]
    simp [hsz, hlt.1.1]
  have e2 : ((a.put (some t1) (.agg vl.toArray)).put (some t2) (.int .i64 k)).tmps[t2]? = some (.int .i64 k) := by simp [Act.put, hsz, hlt.1.2.1]
  have hr3 : (execOp ((a.put (some t1) (.agg vl.toArray)).put (some t2) (.int .i64 k)).eval ⟨some t3, .call ⟨.value (.func f), #[.tmp t1, .tmp t2], tys⟩, ty3, p3, a3, none⟩).run S.P w = .ok (.enter f #[.agg vl.toArray, .int .i64 k]) w := by
    have e1' : ((a.put (some t1) (.agg vl.toArray)).put (some t2) (.int .i64 k)).eval (.tmp t1) = .agg vl.toArray := by simp only [Act.eval, Array.getD_eq_getD_getElem?, e1, Option.getD_some]
    have e2' : ((a.put (some t1) (.agg vl.toArray)).put (some t2) (.int .i64 k)).eval (.tmp t2) = .int .i64 k := by simp only [Act.eval, Array.getD_eq_getD_getElem?, e2, Option.getD_some]
    simp only [execOp, resolve, List.map_toArray, List.map_cons, List.map_nil, e1', e2']
    simp [Act.eval, Deferred.ofValue, invoke, enter_run mk.1]
  unfold Oper.wp
  rw [hr3, Oper.upon_enter]
  refine (mk.2 G.lim w vl qs k (by rw [hvl]; exact (TA.len fs _ _ _ _ _ _ hT).1) q1 hWr h0 (by rw [q2]; exact hb)).mono ?_
  rintro e w' ⟨rfl, hmk⟩
  refine hN3 _ _ ?_
  refine wpList_step fun N4 hN4 => ?_
  rw [if_pos (show Region.wanted _ _ = true from rfl)]
  have e3 : (((a.put (some t1) (.agg vl.toArray)).put (some t2) (.int .i64 k)).put (some t3) (.int .i64 (k + qs.length))).tmps[t3]? = some (.int .i64 (k + qs.length)) := by simp [Act.put, hsz, hlt.1.2.2.1]
  have hr4 : (execOp (((a.put (some t1) (.agg vl.toArray)).put (some t2) (.int .i64 k)).put (some t3) (.int .i64 (k + qs.length))).eval ⟨some M, .assign (.tmp t3), ty4, p4, a4, none⟩).run S.P w' = .ok (.value (.int .i64 (k + qs.length))) w' := by simp only [execOp, Act.eval, Array.getD_eq_getD_getElem?, e3, Option.getD_some]; rfl
  unfold Oper.wp
  rw [hr4]
  refine hN4 _ _ (wpList_nil ?_)
  have hI := hmk.intW G.lim hints
  have hm0 := mono_of_simW hc hs.W
  have hmB : Mono (B0 B) G B.w w' := ⟨fun b o v h1 h2 => by
    obtain ⟨p1, p2⟩ := hm0.cell b o v h1 h2
    refine ⟨p1, hmk.off b o v (fun hq => ?_) p2⟩
    have := (lab_new hc hs.W hi (q4' _ hq)).1
    have := cell_lt h2
    simp at *
    omega, hm0.lab⟩
  have hfr : ∀ b o u, ¬ ([i] <+: G.lab b) → cellAt w b o = some u → cellAt w' b o = some u := fun b o u hl hu => hmk.off b o u (fun hq => hl (q4' _ hq)) hu
  have hsim : Sim B L' G a w' := by
    refine marked_sim hs hmk (fun q hq => (lab_new hc hs.W hi (q4' q hq)).1) (fun q hq => (lab_new hc hs.W hi (q4' q hq)).2.1) hL (fun t d' hd => ?_) (fun id cs hl => ?_) (fun id cs hl => ?_)
    · obtain ⟨d0, k1, k2, k3⟩ := henv _ (mem_of_look hd)
      obtain ⟨v, u1, u2⟩ := hs.env t d0 k1
      simp only at k2
      subst k2
      exact ⟨v, u1, k3 G w _ v hmB hfr u2⟩
    · rcases hbx _ (mem_of_look hl) with ⟨k1, k2⟩ | ⟨k1, k2⟩
      · exact ⟨cs, k1, rfl, fun _ _ _ _ _ hv j d v hd hv' => k2 d (List.mem_of_getElem? hd) G w _ v hmB hfr (hv j d v hd hv')⟩
      · simp only at k1 k2
        subst k1; subst k2
        refine ⟨_, hB, (TA.len fs _ _ _ _ _ _ hT).2.symm, fun g2 vs2 e2 hg2 hh2 _ j d v hd hv' => ?_⟩
        rw [hβ] at hg2
        obtain rfl := Option.some.inj hg2
        rw [b1] at hh2
        obtain ⟨rfl, rfl⟩ : vs = vs2 ∧ eT = e2 := by simpa using hh2
        exact q5 w' hI (hmk.at_ q3) j d v hd (by rw [hvd, List.getElem?_take, if_pos (by have := (List.getElem?_eq_some_iff.1 hd).1; have := (TA.len fs _ _ _ _ _ _ hT).2; omega)]; simpa using hv')
    · obtain ⟨k1, k2⟩ := hro _ (mem_of_look hl)
      exact ⟨cs, k1, rfl, fun vl hv j d v hd hv' => k2 d (List.mem_of_getElem? hd) G w _ v hmB hfr (hv j d v hd hv')⟩
  have hs1 := sim_skip hsim (.agg vl.toArray) (t := t1) fun q hq => (hne q hq).1
  have hs2 := sim_skip hs1 (.int .i64 k) (t := t2) fun q hq => (hne q hq).2.1
  have hs3 := sim_skip hs2 (.int .i64 (k + qs.length)) (t := t3) fun q hq => (hne q hq).2.2.1
  have hs4 := hs3.put (t := M) (d := .int .i64 (k + qs.length)) (by rw [hL.1]; exact hlt.1.2.2.2) .int
  rw [q2] at hs4 ⊢
  exact h G _ _ hs4
end regions
end Go.Lg
