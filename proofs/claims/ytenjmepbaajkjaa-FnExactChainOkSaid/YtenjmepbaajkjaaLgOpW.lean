/-
  Lg, part 7: a quiet operation, whatever it is.
-/
import Derived.Test.YtenjmepbaajkjaaLgBuild
import Derived.Great.BuildSlice
import Derived.Laws.MakeOwn
namespace Go.Lg
open Go Go.RowKit

def Ghost.grow (G : Ghost) (g n : Nat) : Ghost := { G with lim := fun b => if b = g then n else G.lim b }

theorem alloc_mono {B : Base} {bx ro : List (Nat × List D)} {tk : List Nat} {G : Ghost} {w : World} (_h : SimW B bx ro tk G w) (o : Obj) (n : Nat) : Mono G (G.grow w.heap.size n) w (w.alloc o) := by
  refine ⟨fun b q v h1 h2 => ?_, fun b _ => rfl⟩
  have hlt := cell_lt h2
  refine ⟨by simp only [Ghost.grow]; rw [if_neg (by omega)]; exact h1, ?_⟩
  rw [cell_of_heap (Below.heap_alloc w o b hlt)]
  exact h2

theorem alloc_rel {B : Base} {bx ro : List (Nat × List D)} {tk : List Nat} {G : Ghost} {w : World} (h : SimW B bx ro tk G w) (o : Obj) (n : Nat) {d : D} {v : Value} (hr : Rel G w d v) : Rel (G.grow w.heap.size n) (w.alloc o) d v :=
  hr.mono (alloc_mono h o n) (fun _ _ _ h => h) (fun k _ => .inr ⟨rfl, fun g e z hk => by
    obtain ⟨_, _, ⟨cur, hc, _⟩, _⟩ := h.tau k g e z hk
    have hlt := heap_lt hc
    exact ⟨by simp only [Ghost.grow]; rw [if_neg (by omega)], shape_of_heap (Below.heap_alloc w o g hlt)⟩⟩)

/-- A new block. -/
theorem alloc_simW {B : Base} {bx ro : List (Nat × List D)} {tk : List Nat} {G : Ghost} {w : World} (h : SimW B bx ro tk G w) (o : Obj) (n : Nat) : SimW B bx ro tk (G.grow w.heap.size n) (w.alloc o) := by
  have hold : ∀ b, b < w.heap.size → (w.alloc o).heap[b]? = w.heap[b]? := fun b hb => Below.heap_alloc w o b hb
  have hlim : ∀ b, b < w.heap.size → (G.grow w.heap.size n).lim b = G.lim b := fun b hb => by simp only [Ghost.grow]; rw [if_neg (by omega)]
  have hbox : ∀ {g cs}, BoxAt G w g cs → BoxAt (G.grow w.heap.size n) (w.alloc o) g cs := fun ⟨vs, e, e1, e2, e3⟩ =>
    ⟨vs, e, by rw [hold _ (heap_lt e1)]; exact e1, e2, fun j d v hd hv => alloc_rel h o n (e3 j d v hd hv)⟩
  exact {
    boxes := fun id cs hl => by
      obtain ⟨g, h1, h2, h3, h4⟩ := h.boxes id cs hl
      exact ⟨g, h1, hbox h2, by rw [hlim g (h.blt _ _ h1)]; exact h3, h4⟩
    robs := fun id cs hl => by
      obtain ⟨g, h1, h2, h3, h4⟩ := h.robs id cs hl
      exact ⟨g, h1, hbox h2, h3, h4⟩
    toks := h.toks
    tau := fun k g e z hk => by
      obtain ⟨h1, h2, ⟨cur, h3, h4⟩, h5⟩ := h.tau k g e z hk
      exact ⟨h1, h2, ⟨cur, by rw [hold _ (heap_lt h3)]; exact h3, by rw [hlim _ (heap_lt h3)]; exact h4⟩, h5⟩
    tinj := h.tinj
    binj := h.binj
    blt := fun i g hg => by have := h.blt i g hg; simp; omega
    lablt := fun b hb => by have := h.lablt b hb; simp; omega
    old := fun b hlt hab => by
      have hs := h.sz
      rw [hold b (by omega), hlim b (by omega)]
      exact h.old b hlt hab
    olda := fun b hlt => by
      have hs := h.sz
      rw [hlim b (by omega)]
      refine ⟨(h.olda b hlt).1, fun q v hq hc => ?_⟩
      rw [cell_of_heap (hold b (by omega))]
      exact (h.olda b hlt).2 q v hq hc
    oldl := h.oldl
    tlab := h.tlab
    blab := h.blab
    oldu := h.oldu
    labw := fun b hb hor => by
      obtain ⟨vs, e, h1⟩ := h.labw b hb hor
      exact ⟨vs, e, by rw [hold b (h.lablt b hb)]; exact h1⟩
    ids := h.ids
    sz := by have := h.sz; simp; omega
    os := h.os
    tape := h.tape
    out := h.out }

theorem alloc_quiet (G : Ghost) (w : World) (o : Obj) (n : Nat) : Quiet G (G.grow w.heap.size n) w (w.alloc o) :=
  ⟨fun b hb => ⟨Below.heap_alloc w o b hb, by simp only [Ghost.grow]; rw [if_neg (by omega)], rfl⟩, rfl, rfl, by simp⟩
theorem alloc_sim {B : Base} {L : LS} {G : Ghost} {a : Act} {w : World} (h : Sim B L G a w) (o : Obj) (n : Nat) : Sim B L (G.grow w.heap.size n) a (w.alloc o) :=
  h.move (alloc_simW h.W o n) fun _ _ hr => alloc_rel h.W o n hr

theorem alloc_cell (w : World) (cells : Array Value) (e : TypeId) (j : Nat) : (w.alloc (.cells cells e)).cell? ⟨w.heap.size, j, none⟩ = cells[j]? := by
  have h := heap_alloc_new w (.cells cells e)
  unfold World.cell?
  simp only [h]
  rfl

theorem buildSlice_sound {S : Setup} {B : Base} {L : LS} {G : Ghost} {a : Act} {w : World} (hs : Sim B L G a w) {t : TypeId} {n : Nat} {ps : List (Nat × D)} {vs : Array (Nat × Value)} (hv : PRel G w ps vs.toList) {K : D → Prop}
    (h : buildSliceY S t n ps K) : ∃ d v G' w', K d ∧ (Instr.buildSlice t n vs).run S.P w = .ok v w' ∧ Sim B L G' a w' ∧ Rel G' w' d v ∧ Quiet G G' w w' := by
  unfold buildSliceY at h
  split at h
  · rename_i e hk
    obtain ⟨j, hj, hidx, hsmall, hpos, hcell, hK⟩ := someK_get h
    have hu := kd_slice hk
    have hok := S.ok e j hj
    obtain ⟨inf, i1, i2, i3, z, i4, i5, i6⟩ := hok.info
    have hzs : z.cells.size = j.size := by rw [i5]; simp [TyI.size]
    have hlen : ps.length = n := by have := congrArg List.length hidx; simpa using this
    let qs := ps.map fun p => (p.1, p.2.strip)
    have hq : PRel G w qs vs.toList := hv.strip
    have hqi : qs.map (·.1) = List.range' 0 (n - 0) := by
      simp only [qs, List.map_map, Nat.sub_zero]
      rw [← List.range_eq_range', ← hidx]
      rfl
    have hqc : ∀ p ∈ qs, p.2.cells.length = j.size := fun p hp => by
      obtain ⟨p0, h0, rfl⟩ := List.mem_map.1 hp
      simp only [strip_cells_length]
      exact (hcell p0 h0).1
    obtain ⟨arr, e1, e2⟩ := fill_dense (s := j.size) (k := 0) (n := n) (dn := []) (arr := (Array.range (n * j.size)).map (z.cells[· % z.cells.size]!)) hq hqi (Nat.zero_le _) hqc rfl (by simp) (by simp) (by simp [flat])
    simp only [List.nil_append] at e2
    have hq2 : qs.map (·.2) = ps.map (·.2.strip) := by simp [qs]
    rw [hq2] at e2
    refine ⟨_, .slice (some ⟨w.heap.size, 0, none⟩) n n, G.grow w.heap.size arr.size, w.alloc (.cells arr e), hK, ?_, alloc_sim hs _ _, ?_, alloc_quiet _ _ _ _⟩
    · by_cases hn : n * j.size = 0
      · have hps : ps = [] := by
          rcases hpos with h0 | h0
          · exact List.eq_nil_of_length_eq_zero (by omega)
          · have : n = 0 := by
              rcases Nat.mul_eq_zero.1 hn with h | h <;> omega
            exact List.eq_nil_of_length_eq_zero (by omega)
        have hn0 : n = 0 := by rw [← hlen, hps]; rfl
        subst hps
        subst hn0
        have hvs : vs.toList = [] := by generalize vs.toList = l at hv; cases hv; rfl
        have harr : arr = #[] := by
          have := e2.1
          simp [flat] at this
          exact this
        subst harr
        simp [Instr.buildSlice, run_underlying hu, run_sizeOf hok, hvs, Instr.fill, newRow, Array.range_zero']
      · refine run_buildSlice (P := S.P) w t e n vs arr inf z hu i1 i4 (by rw [i2]; omega) (by rw [i2]; exact hn) ?_
        rw [i2]
        exact e1
    · have hmem : ∀ d ∈ flat (ps.map (·.2.strip)), d.memOk = true := fun d hd => by
        obtain ⟨x, hx, hd⟩ := List.mem_flatMap.1 hd
        obtain ⟨p, hp, rfl⟩ := List.mem_map.1 hx
        exact (hcell p hp).2 d hd
      have hu2 : ∀ x ∈ ps.map (·.2.strip), x.cells.length = j.size := fun x hx => by
        obtain ⟨p, hp, rfl⟩ := List.mem_map.1 hx
        rw [strip_cells_length]
        exact (hcell p hp).1
      have hnm : n ≤ maxLen := by
        rcases hpos with h0 | h0
        · subst h0; exact Nat.zero_le _
        · have := Nat.le_mul_of_pos_right n h0
          simp only [maxLen]; omega
      refine .sl (b := w.heap.size) (o := 0) (s := j.size) (by simp [hlen]) (Nat.le_refl _) hnm rfl (.inr rfl) hu2 hmem (fun q d hd => ?_) (fun q d v hd hv' => ?_)
      · have hlt : q < arr.size := by rw [e2.1]; exact (List.getElem?_eq_some_iff.1 hd).1
        simp only [Nat.zero_add]
        refine ⟨by simpa [Ghost.grow] using hlt, arr[q], ?_⟩
        rw [alloc_cell]
        simp [hlt]
      · simp only [Nat.zero_add, alloc_cell] at hv'
        exact alloc_rel hs.W _ _ (e2.2 q d v hd hv')
  · exact h.elim

/-- What is shown of an operation that leaves boxes and tokens alone: it yields a value that reads as d. -/
def Yld (S : Setup) (o : Oper) (B : Base) (L : LS) (G : Ghost) (a : Act) (w : World) (d : D) : Prop :=
  ∀ (K' : Act → World → Prop) (Q : Exit → Act → World → Prop), (∀ v G' w', Sim B L G' a w' → Rel G' w' d v → Quiet G G' w w' → K' (a.put o.dst v) w') → o.wp S.P a w K' Q

theorem Yld.of_runQ {S : Setup} {o : Oper} {B : Base} {L : LS} {G G' : Ghost} {a : Act} {w w' : World} {d : D} {v : Value} (hr : (execOp a.eval o).run S.P w = .ok (.value v) w') (h : Sim B L G' a w') (hv : Rel G' w' d v) (hq : Quiet G G' w w') : Yld S o B L G a w d := by
  intro K' Q hK
  unfold Oper.wp
  rw [hr]
  exact hK v G' w' h hv hq
theorem Yld.of_run {S : Setup} {o : Oper} {B : Base} {L : LS} {G : Ghost} {a : Act} {w : World} {d : D} {v : Value} (hr : (execOp a.eval o).run S.P w = .ok (.value v) w) (h : Sim B L G a w) (hv : Rel G w d v) : Yld S o B L G a w d := .of_runQ hr h hv (.refl G w)

theorem enter_run {P : Program} {f : FuncId} (h : Enters P f) (args : Array Value) (w : World) : (callFunc f args).run P w = .ok (.enter f args) w := by
  obtain ⟨fn, h1, h2, h3⟩ := h
  have h2' : ¬ fn.name = "runtime.NumGoroutine" := by simpa using h2
  have h3' : ¬ fn.body = none := by intro e; rw [e] at h3; cases h3
  simp [callFunc, h1, h2', h3']

theorem madeCells_rel {S : Setup} {G : Ghost} {w : World} {e : TypeId} {i : TyI} (hi : S.tab e = some i) (hp : 0 < i.size) (n : Nat) :
    ∃ inf z, S.P.info? e = some inf ∧ inf.zero = some z ∧ inf.size = i.size ∧ inf.bytes = i.bytes ∧ RelArr G w (List.replicate n (i.zero.map ZK.d)).flatten (madeCells z.cells (n * i.size)) := by
  obtain ⟨inf, h1, h2, h3, z, h4, h5, _⟩ := (S.ok e i hi).info
  obtain ⟨z', hz', hr, hzs⟩ := relArr_zero (S := S) (G := G) (w := w) hi
  have hzz : z' = z := by
    have : (zeroValue e).run S.P w = .ok z w := by simp [zeroValue, typeInfo, h1, h4]
    rw [this] at hz'
    simpa using hz'.symm
  subst hzz
  refine ⟨inf, z', h1, h4, h2, h3, ?_, fun j d v hd hv => ?_⟩
  · simp [size_madeCells, TyI.size]
  · have hlen : (i.zero.map ZK.d).length = i.size := by simp [TyI.size]
    have hfl : (List.replicate n (i.zero.map ZK.d)).flatten[j]? = some d := hd
    have hj : j < n * i.size := by
      have := (List.getElem?_eq_some_iff.1 hfl).1
      simpa [TyI.size] using this
    have key : ∀ (n j : Nat), j < n * i.size → (List.replicate n (i.zero.map ZK.d)).flatten[j]? = (i.zero.map ZK.d)[j % i.size]? := by
      intro n
      induction n with
      | zero => intro j hj; omega
      | succ n ih =>
        intro j hj
        rw [List.replicate_succ, List.flatten_cons]
        by_cases h : j < i.size
        · rw [List.getElem?_append_left (by omega), Nat.mod_eq_of_lt h]
        · rw [List.getElem?_append_right (by omega), hlen, ih (j - i.size) (by have := Nat.add_mul n 1 i.size; omega), Nat.mod_eq_sub_mod (show i.size ≤ j by omega)]
    rw [key n j hj] at hfl
    have hm : j % i.size < z'.cells.size := by rw [hzs]; exact Nat.mod_lt _ hp
    have hv' : v = z'.cells[j % z'.cells.size]! := by
      simp only [madeCells, Array.getElem?_map] at hv
      rw [Array.getElem?_range] at hv
      rw [if_pos hj] at hv
      simpa using hv.symm
    rw [hzs] at hv'
    refine hr.2 (j % i.size) d v hfl ?_
    rw [hv']
    simp [hm]

theorem makeQ_sound {S : Setup} {B : Base} {L : LS} {G : Ghost} {a : Act} {w : World} (hs : Sim B L G a w) {t : TypeId} {l c : D} {ul uc : Value} (hl : Rel G w l ul) (hc : Rel G w c uc) {K : D → Prop}
    (h : makeQ S t l c K) : ∃ d v G' w', K d ∧ (Instr.makeSlice t ul uc).run S.P w = .ok v w' ∧ Sim B L G' a w' ∧ Rel G' w' d v ∧ Quiet G G' w w' := by
  unfold makeQ at h
  split at h
  · rename_i e k n k' m hk
    obtain ⟨i, hi, h⟩ := someK_get h
    obtain ⟨z, hz, ⟨h1, h2, rfl⟩, ⟨h3, h4⟩, h5, hK⟩ := someK_get h
    cases hl; cases hc
    have hu := kd_slice hk
    have hz1 : i.zero = [z] := by
      cases hzz : i.zero with
      | nil => rw [hzz] at hz; cases hz
      | cons a r =>
        rw [hzz] at hz h1
        simp only [List.head?_cons, Option.some.injEq] at hz
        simp only [List.length_cons] at h1
        rw [hz, List.length_eq_zero_iff.1 (show r.length = 0 by omega)]
    have hsz : i.size = 1 := by simp [TyI.size, hz1]
    obtain ⟨inf, zv, i1, i2, i3, i4, hrel⟩ := madeCells_rel (G := G) (w := w) hi (by omega) n.toNat
    have hr := run_make (P := S.P) w t e inf zv hu i1 i2 k k' n n h2 (Int.le_refl _) (by rw [i4]; exact h3) h4
    rw [i3] at hr
    rw [hsz, Nat.mul_one] at hrel hr
    have hfl : (List.replicate n.toNat (i.zero.map ZK.d)).flatten = List.replicate n.toNat z.d := by
      rw [hz1]
      generalize n.toNat = q
      induction q with
      | zero => rfl
      | succ q ih => rw [List.replicate_succ, List.flatten_cons, ih, List.replicate_succ]; rfl
    rw [hfl] at hrel
    have hcells : (strip1 z.d).cells = [strip1 z.d] := by cases z <;> rfl
    have hflat : flat (List.replicate n.toNat (strip1 z.d)) = List.replicate n.toNat (strip1 z.d) := by
      unfold flat
      generalize n.toNat = q
      induction q with
      | zero => rfl
      | succ q ih => rw [List.replicate_succ, List.flatMap_cons, ih, hcells]; rfl
    have hle : ∀ {G' : Ghost} {w' : World} {v : Value}, Rel G' w' z.d v → Rel G' w' (strip1 z.d) v := fun hr => by
      cases z <;> first | exact hr | exact hr.le .any
    have hsize : (madeCells zv.cells n.toNat).size = n.toNat := by simpa using hrel.1
    refine ⟨_, _, _, _, hK, hr, alloc_sim hs (.cells (madeCells zv.cells n.toNat) e) n.toNat, ?_, alloc_quiet _ _ _ _⟩
    have hrl : ∀ d v, Rel G w d v → Rel (G.grow w.heap.size n.toNat) (w.alloc (.cells (madeCells zv.cells n.toNat) e)) d v := fun _ _ hr => alloc_rel hs.W (.cells (madeCells zv.cells n.toNat) e) n.toNat hr
    refine .sl (b := w.heap.size) (o := 0) (s := 1) (by simp) (Nat.le_refl _) (by simp only [maxLen]; omega) trivial (.inr rfl) (fun x hx => ?_) (fun d hd => ?_) (fun j d hd => ?_) (fun j d v hd hv => ?_)
    · rw [(List.mem_replicate.1 hx).2, hcells]; rfl
    · rw [hflat] at hd
      rw [(List.mem_replicate.1 hd).2]; exact h5
    · rw [hflat] at hd
      have hj : j < n.toNat := by have := (List.getElem?_eq_some_iff.1 hd).1; simpa using this
      rw [Nat.zero_add, alloc_cell]
      exact ⟨by simpa [Ghost.grow] using hj, (madeCells zv.cells n.toNat)[j]'(by omega), by simp [show j < (madeCells zv.cells n.toNat).size by omega]⟩
    · rw [hflat] at hd
      have hj : j < n.toNat := by have := (List.getElem?_eq_some_iff.1 hd).1; simpa using this
      rw [Nat.zero_add, alloc_cell] at hv
      have e0 : d = strip1 z.d := (List.mem_replicate.1 (List.mem_of_getElem? hd)).2
      subst e0
      exact hle (hrl _ _ (hrel.2 j z.d v (by simp [hj]) hv))
  · exact h.elim

theorem length_two {α : Type} {l : List α} (h : l.length = 2) : ∃ u v, l = [u, v] := by
  match l, h with
  | [u, v], _ => exact ⟨u, v, rfl⟩

theorem opY_sound {S : Setup} {o : Oper} {B : Base} {L : LS} {G : Ghost} {a : Act} {w : World} (hs : Sim B L G a w) {K : D → Prop} (h : opY S o.op (evalO L) L.getBox K) : ∃ d, K d ∧ Yld S o B L G a w d := by
  obtain ⟨dst, op, type, pos, after, guard⟩ := o
  simp only at h
  unfold opY at h
  split at h
  case h_1 x =>
    obtain ⟨d, hd, hK⟩ := someK_get h
    exact ⟨d, hK, .of_run (by simp [execOp]) hs (eval_sound hs hd)⟩
  case h_2 x =>
    obtain ⟨d, hd, hK⟩ := someK_get h
    exact ⟨d, hK, .of_run (by simp [execOp]) hs (eval_sound hs hd)⟩
  case h_3 c x y =>
    obtain ⟨d, hd, h⟩ := someK_get h
    split at h
    · rename_i t
      have hc := eval_sound hs hd
      have hc' : a.eval c = .bool t := by generalize a.eval c = u at hc; cases hc; rfl
      cases t
      · simp only [Bool.false_eq_true, if_false] at h
        obtain ⟨d, hd, hK⟩ := someK_get h
        exact ⟨d, hK, .of_run (by simp [execOp, hc', asBool]) hs (eval_sound hs hd)⟩
      · simp only [if_true] at h
        obtain ⟨d, hd, hK⟩ := someK_get h
        exact ⟨d, hK, .of_run (by simp [execOp, hc', asBool]) hs (eval_sound hs hd)⟩
    · exact h.elim
  case h_4 t x =>
    obtain ⟨d, hd, h⟩ := someK_get h
    obtain ⟨d, v, hK, hr, hv⟩ := loadY_sound hs (eval_sound hs hd) h
    exact ⟨d, hK, .of_run (by simp [execOp, hr]) hs hv⟩
  case h_5 x =>
    obtain ⟨d, hd, h⟩ := someK_get h
    have hv := eval_sound hs hd
    generalize hu : a.eval x = u at hv
    cases hv <;> first
      | exact h.elim
      | exact ⟨_, h, .of_run (v := a.eval x) (by simp [execOp, hu]) hs (eval_sound hs hd)⟩
  case h_6 bop t x y yt =>
    obtain ⟨dx, hx, h⟩ := someK_get h
    obtain ⟨dy, hy, h⟩ := someK_get h
    obtain ⟨d, v, hK, hr, hv⟩ := binY_sound (eval_sound hs hx) (eval_sound hs hy) x y h
    exact ⟨d, hK, .of_run (by unfold execOp; dsimp only; rw [Sem.run_bind, hr]; rfl) hs hv⟩
  case h_7 uop t x =>
    obtain ⟨d, hd, h⟩ := someK_get h
    obtain ⟨d, v, hK, hr, hv⟩ := unY_sound (S := S) (eval_sound hs hd) h
    exact ⟨d, hK, .of_run (by simp [execOp, hr]) hs hv⟩
  case h_8 src dst x =>
    obtain ⟨hsrc, h⟩ := h
    obtain ⟨d, hd, h⟩ := someK_get h
    obtain ⟨d, v, hK, hr, hv⟩ := convY_sound hsrc (eval_sound hs hd) h
    exact ⟨d, hK, .of_run (by simp [execOp, hr]) hs hv⟩
  case h_9 f first captured =>
    obtain ⟨hf, h⟩ := h
    obtain ⟨ds, hds, hK⟩ := someK_get h
    obtain ⟨e1, e2⟩ := mapO_sound hs hds
    have hf' : first = #[] := by
      obtain ⟨l⟩ := first
      simp at hf
      simp [hf]
    subst hf'
    refine ⟨_, hK, .of_run (v := .func (.func f) #[] (captured.toList.map a.eval).toArray) ?_ hs ?_⟩
    · simp [execOp, Instr.makeFunc, ← Array.toList_map]
    · exact .fn (by simp [e1]) e2
  case h_10 t x f =>
    obtain ⟨d, hd, h⟩ := someK_get h
    obtain ⟨d, v, hK, hr, hv⟩ := fieldAddrY_sound (eval_sound hs hd) h
    exact ⟨d, hK, .of_run (by simp [execOp, hr]) hs hv⟩
  case h_11 t x f =>
    obtain ⟨d, hd, h⟩ := someK_get h
    obtain ⟨d, v, hK, hr, hv⟩ := fieldY_sound (eval_sound hs hd) h
    exact ⟨d, hK, .of_run (by simp [execOp, hr]) hs hv⟩
  case h_12 t x ix =>
    obtain ⟨dx, hx, h⟩ := someK_get h
    obtain ⟨di, hi, h⟩ := someK_get h
    obtain ⟨d, v, hK, hr, hv⟩ := indexAddrY_sound (eval_sound hs hx) (eval_sound hs hi) h
    exact ⟨d, hK, .of_run (by simp [execOp, hr]) hs hv⟩
  case h_13 t x ix =>
    obtain ⟨dx, hx, h⟩ := someK_get h
    obtain ⟨di, hi, h⟩ := someK_get h
    obtain ⟨d, v, hK, hr, hv⟩ := indexY_sound (eval_sound hs hx) (eval_sound hs hi) h
    exact ⟨d, hK, .of_run (by simp [execOp, hr]) hs hv⟩
  case h_14 t x lo hi mx =>
    obtain ⟨dx, hx, h⟩ := someK_get h
    obtain ⟨l, hl, h⟩ := someK_get h
    obtain ⟨hh, hhi, h⟩ := someK_get h
    obtain ⟨m, hm, h⟩ := someK_get h
    obtain ⟨⟨⟨q1, q2, q3⟩, q4⟩, h⟩ := h
    have opt : ∀ {o : Option Operand} {r : Option Int}, intOfD (o.bind (evalO L)) = some r → o.isSome = r.isSome →
        (o.map a.eval = none ∧ r = none) ∨ ∃ k n, o.map a.eval = some (.int k n) ∧ r = some n := by
      intro o r hr hsome
      cases o with
      | none =>
        left
        cases r with
        | none => exact ⟨rfl, rfl⟩
        | some n => cases hsome
      | some y =>
        right
        rcases intOfD_rel hr with ⟨_, rfl⟩ | ⟨k, n, e1, rfl⟩
        · cases hsome
        · have he : evalO L y = some (.int k n) := by simpa using e1
          have hv := eval_sound hs he
          generalize hu : a.eval y = u at hv
          cases hv
          exact ⟨k, n, by simp [hu], rfl⟩
    obtain ⟨d, v, hK, hr, hv⟩ := sliceY_sound (eval_sound hs hx) (opt hl q1) (opt hhi q2) (opt hm q3) (by simpa using q4) h
    exact ⟨d, hK, .of_run (by simp [execOp, hr]) hs hv⟩
  case h_15 t ps =>
    obtain ⟨l, hl, h⟩ := someK_get h
    obtain ⟨d, v, hK, hr, hv⟩ := buildY_sound (vs := ps.map fun (i, x) => (i, a.eval x)) (by simpa using zipO_sound hs hl) h
    exact ⟨d, hK, .of_run (by simp [execOp, hr]) hs hv⟩
  case h_16 t n ps =>
    obtain ⟨l, hl, h⟩ := someK_get h
    obtain ⟨d, v, G', w', hK, hr, hs', hv, hq⟩ := buildSlice_sound hs (vs := ps.map fun (i, x) => (i, a.eval x)) (by simpa using zipO_sound hs hl) h
    exact ⟨d, hK, .of_runQ (by simp [execOp, hr]) hs' hv hq⟩
  case h_17 x i =>
    obtain ⟨d, hd, h⟩ := someK_get h
    have hv := eval_sound hs hd
    generalize hu : a.eval x = u at hv
    cases hv <;> first
      | exact h.elim
      | (rename_i ds vl hl hr
         obtain ⟨d, hdi, hK⟩ := someK_get h
         have hlt : i < vl.length := by rw [hl]; exact (List.getElem?_eq_some_iff.1 hdi).1
         exact ⟨d, hK, .of_run (v := vl[i]) (by simp [execOp, hu, Instr.extract, hlt]) hs (hr i d _ hdi (by simp [hlt]))⟩)
  case h_18 args tys =>
    obtain ⟨ds, hds, h⟩ := someK_get h
    obtain ⟨e1, e2⟩ := mapO_sound hs hds
    split at h
    · rename_i d t htys
      have hal : (args.toList.map a.eval).length = 1 := by simpa using e1.symm
      obtain ⟨u, hu⟩ := List.length_eq_one_iff.1 hal
      have hx := e2 0 d u rfl (by rw [hu]; rfl)
      obtain ⟨d, v, hK, hr, hv⟩ := lenY_sound (ty := type) hx h
      refine ⟨d, hK, .of_run (v := v) ?_ hs hv⟩
      have ha : args.map a.eval = #[u] := by rw [← Array.toArray_toList (xs := args.map a.eval), Array.toList_map, hu]
      have ht : tys = #[t] := by rw [← Array.toArray_toList (xs := tys), htys]
      simp [execOp, resolve, invoke, builtin, ha, ht, hr]
    · exact h.elim
  case h_19 args tys =>
    obtain ⟨ds, hds, h⟩ := someK_get h
    obtain ⟨e1, e2⟩ := mapO_sound hs hds
    split at h
    · rename_i x y
      obtain ⟨d, hd, hK⟩ := someK_get h
      unfold minD at hd
      split at hd
      · rename_i k p k' q
        split at hd
        · rename_i hkk
          subst hkk
          obtain rfl := Option.some.inj hd
          have hal : (args.toList.map a.eval).length = 2 := by simpa using e1.symm
          obtain ⟨u, v, hu⟩ := length_two hal
          have h1 := e2 0 _ u rfl (by rw [hu]; rfl)
          have h2 := e2 1 _ v rfl (by rw [hu]; rfl)
          cases h1; cases h2
          have ha : args.map a.eval = #[.int k p, .int k q] := by rw [← Array.toArray_toList (xs := args.map a.eval), Array.toList_map, hu]
          exact ⟨_, hK, .of_run (by simp [execOp, resolve, invoke, builtin, ha, run_min_int2]) hs .int⟩
        · cases hd
      · cases hd
    · exact h.elim
  case h_20 args tys =>
    obtain ⟨ds, hds, h⟩ := someK_get h
    obtain ⟨e1, e2⟩ := mapO_sound hs hds
    split at h
    · rename_i x y
      obtain ⟨d, hd, hK⟩ := someK_get h
      unfold maxD at hd
      split at hd
      · rename_i k p k' q
        split at hd
        · rename_i hkk
          subst hkk
          obtain rfl := Option.some.inj hd
          have hal : (args.toList.map a.eval).length = 2 := by simpa using e1.symm
          obtain ⟨u, v, hu⟩ := length_two hal
          have h1 := e2 0 _ u rfl (by rw [hu]; rfl)
          have h2 := e2 1 _ v rfl (by rw [hu]; rfl)
          cases h1; cases h2
          have ha : args.map a.eval = #[.int k p, .int k q] := by rw [← Array.toArray_toList (xs := args.map a.eval), Array.toList_map, hu]
          exact ⟨_, hK, .of_run (by simp [execOp, resolve, invoke, builtin, ha, run_max_int2]) hs .int⟩
        · cases hd
      · cases hd
    · exact h.elim
  case h_21 f args tys =>
    obtain ⟨df, hf, h⟩ := someK_get h
    obtain ⟨ds, hds, h⟩ := someK_get h
    obtain ⟨e1, e2⟩ := mapO_sound hs hds
    unfold callY at h
    split at h
    · rename_i fid cap _
      obtain ⟨cx, d, fc, hcx, hid, htk, hK⟩ := h
      have hv := eval_sound hs hf
      generalize hu : a.eval f = u at hv
      cases hv with
      | @fn _ _ vl hl hr =>
      refine ⟨d, hK, ?_⟩
      intro K' Q hK'
      have hrun : (execOp a.eval ⟨dst, .call ⟨.value f, args, tys⟩, type, pos, after, guard⟩).run S.P w = .ok (.enter fid (args.map a.eval ++ vl.toArray)) w := by
        simp [execOp, resolve, hu, Deferred.ofValue, invoke, enter_run fc.1]
      unfold Oper.wp
      rw [hrun, Oper.upon_enter]
      refine (callq_sound hs (vals := args.map a.eval ++ vl.toArray) ?_ ?_ hcx fc hid htk).mono ?_
      · simp at e1
        simp [e1, hl]
      · intro j d v hd hv
        have hsz : (args.map a.eval).size = ds.length := by simp at e1; simp [e1]
        by_cases hj : j < ds.length
        · rw [List.getElem?_append_left hj] at hd
          rw [Array.getElem?_append_left (by omega)] at hv
          exact e2 j d v hd (by simpa using hv)
        · rw [List.getElem?_append_right (by omega)] at hd
          rw [Array.getElem?_append_right (by omega), hsz] at hv
          exact hr _ d v hd (by simpa using hv)
      · rintro e w' ⟨v, G', rfl, h1, h2, hq⟩
        exact hK' v G' w' h1 h2 hq
    · exact h.elim
  case h_22 t l c =>
    obtain ⟨dl, hdl, h⟩ := someK_get h
    obtain ⟨dc, hdc, h⟩ := someK_get h
    obtain ⟨d, v, G', w', hK, hr, hs', hv, hq⟩ := makeQ_sound hs (eval_sound hs hdl) (eval_sound hs hdc) h
    exact ⟨d, hK, .of_runQ (by simp [execOp, hr]) hs' hv hq⟩
  case h_23 => exact h.elim
end Go.Lg
