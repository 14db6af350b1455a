/-
  Lg, part 13: what 'stepY' says is what the model does; a region in the text's order.
-/
import Derived.Test.YtenjmepbaajkjaaLgStep
namespace Go.Lg
open Go Go.RowKit

theorem put_O (a : Act) (t : Nat) (v : Value) : a.put (some t) v = { a with tmps := a.tmps.setIfInBounds t v } := rfl

theorem box_cells {G : Ghost} {w : World} {d : D} {v : Value} (h : Rel G w d v) : RelArr G w d.cells v.cells := h.cells

theorem makeY_inv {S : Setup} {base : Nat} {L : LS} {t : Nat} {ty : TypeId} {same : Bool} {l c : D} {N : LS → Prop} (h : makeY S base L t ty same l c N) :
    ∃ e k n k' m, S.kd ty = some (.slice e) ∧ l = .int k n ∧ c = .int k' m ∧ makeY S base L t ty same (.int k n) (.int k' m) N := by
  have h0 := h
  unfold makeY at h
  split at h
  · exact ⟨_, _, _, _, _, by assumption, rfl, rfl, h0⟩
  · exact h.elim

theorem stepY_sound {S : Setup} {base : Nat} {B : Base} {o : Oper} {L : LS} {G : Ghost} {a : Act} {w : World} {N : LS → Prop} (hs : Sim B L G a w) (h : stepY S base o L N) (Q : Exit → Act → World → Prop) :
    o.wp S.P a w (fun a' w' => ∃ G' L', N L' ∧ Sim B L' G' a' w') Q := by
  have quiet : opY S o.op (evalO L) L.getBox (fun d => dstOk o.dst L ∧ N (L.putO o.dst d)) → o.wp S.P a w (fun a' w' => ∃ G' L', N L' ∧ Sim B L' G' a' w') Q := fun h => by
    obtain ⟨d, ⟨h1, h2⟩, h3⟩ := opY_sound hs h
    refine h3 _ Q fun v G' w' hs' hv _ => ⟨G', _, h2, hs'.putO (fun t' ht' => ?_) hv⟩
    rw [ht'] at h1
    exact h1
  obtain ⟨dst, op, type, pos, after, guard⟩ := o
  unfold stepY at h
  split at h
  · -- box
    rename_i T x hop
    obtain rfl : op = .box T x := hop
    dsimp only at h
    split at h
    · rename_i t
      obtain ⟨d, hd, ⟨h1, h2, h3⟩, hN⟩ := someK_get h
      have hv := eval_sound hs hd
      have hr : (execOp a.eval ⟨some t, .box T x, type, pos, after, guard⟩).run S.P w = .ok (.value (.pointer (some ⟨w.heap.size, 0, none⟩))) (w.alloc (.cells (a.eval x).cells T)) := by
        simp [execOp, Instr.box, newVar, newRow]
      unfold Oper.wp
      rw [hr]
      exact ⟨_, _, hN, newBox_sim hs T h1 h2 h3 (box_cells hv) (.box (g := w.heap.size) (by simp [Ghost.addBox]))⟩
    · exact h.elim
  · -- alloc
    rename_i T hop
    obtain rfl : op = .alloc T := hop
    dsimp only at h
    split at h
    · rename_i t
      obtain ⟨i, hi, ⟨h1, h2⟩, hN⟩ := someK_get h
      obtain ⟨z, hz, hr, _⟩ := relArr_zero (S := S) (G := G) (w := w) hi
      have hrun : (execOp a.eval ⟨some t, .alloc T, type, pos, after, guard⟩).run S.P w = .ok (.value (.pointer (some ⟨w.heap.size, 0, none⟩))) (w.alloc (.cells z.cells T)) := by
        simp [execOp, Instr.alloc, newVar, newRow, hz]
      have hno : base + t ∉ D.idsL (i.zero.map ZK.d) := by
        have : D.idsL (i.zero.map ZK.d) = [] := by
          induction i.zero with
          | nil => rfl
          | cons q r ih =>
            simp only [List.map_cons, D.idsL, ih, List.append_nil]
            cases q <;> rfl
        rw [this]; simp
      unfold Oper.wp
      rw [hrun]
      exact ⟨_, _, hN, newBox_sim hs T h1 h2 hno hr (.box (g := w.heap.size) (by simp [Ghost.addBox]))⟩
    · exact h.elim
  · -- store
    rename_i T x v hop
    obtain rfl : op = .store T x v := hop
    obtain ⟨da, hda, h⟩ := someK_get h
    obtain ⟨d, hd, h⟩ := someK_get h
    unfold storeY at h
    split at h
    · rename_i id off
      obtain ⟨cs, hcs, h⟩ := someK_get h
      obtain ⟨i, hi, ⟨h1, h2, h3, h4⟩, hN⟩ := someK_get h
      have hv := eval_sound hs hd
      obtain ⟨c1, c2⟩ := hv.cells
      have hone : ∀ u ∈ (a.eval v).cells.toList, u.oneCell' = true := fun u hu => by
        obtain ⟨j, hj⟩ := List.getElem?_of_mem hu
        have hlt : j < d.cells.length := by rw [← c1]; have := (List.getElem?_eq_some_iff.1 hj).1; simpa using this
        exact (c2 j _ u (List.getElem?_eq_getElem hlt) (by simpa using hj)).one (List.all_eq_true.1 h3 _ (List.getElem_mem hlt))
      obtain ⟨g, w', k1, k2, k3⟩ := store_sim hs hcs h2 (vl := (a.eval v).cells.toList) (by simpa using c1) (fun j d u hd hu => c2 j d u hd (by simpa using hu)) hone
      have hx := eval_sound hs hda
      generalize hu : a.eval x = u at hx
      cases hx with
      | @box _ _ g' hb =>
      rw [k1] at hb
      obtain rfl := Option.some.inj hb
      have hsz := run_sizeOf (S.ok T i hi) w
      have hr : (execOp a.eval ⟨dst, .store T x v, type, pos, after, guard⟩).run S.P w = .ok .skip w' := by
        simp [execOp, Instr.storeAt, hu, Instr.sureAddr, storeVar, hsz, c1, h1, k2 S.P]
      unfold Oper.wp
      rw [hr]
      refine ⟨G, _, hN, ?_⟩
      rw [putC_eq h2]
      exact k3.putO (fun t' ht' => by rw [ht'] at h4; exact h4) (.raw (by intro cs h; cases h))
    · exact h.elim
  · -- makeSlice
    rename_i T l c hop
    obtain rfl : op = .makeSlice T l c := hop
    dsimp only at h
    split at h
    · rename_i t
      obtain ⟨dl, hl, h⟩ := someK_get h
      obtain ⟨dc, hc, h⟩ := someK_get h
      have hvl := eval_sound hs hl
      have hvc := eval_sound hs hc
      obtain ⟨e, k, n, k', m, hk, rfl, rfl, h⟩ := makeY_inv h
      · unfold makeY at h
        simp only [hk] at h
        obtain ⟨i, hi, h⟩ := someK_get h
        have hu := kd_slice hk
        generalize hul : a.eval l = ul at hvl
        generalize huc : a.eval c = uc at hvc
        cases hvl; cases hvc
        split at h
        · obtain ⟨⟨h1, h2, h3, h3'⟩, h4, h5, h6, hN⟩ := h
          subst h3'
          obtain ⟨inf, z, i1, i2, i3, i4, hrel⟩ := madeCells_rel (G := G) (w := w) hi h6 n.toNat
          have hr := run_make (P := S.P) w T e inf z hu i1 i2 k k' n n h3 (Int.le_refl _) (by rw [i4]; exact h4) h5
          rw [i3] at hr
          have hrun : (execOp a.eval ⟨some t, .makeSlice T l c, type, pos, after, guard⟩).run S.P w = .ok (.value (.slice (some ⟨w.heap.size, 0, none⟩) n.toNat n.toNat)) (w.alloc (.cells (madeCells z.cells (n.toNat * i.size)) e)) := by
            simp [execOp, hul, huc, hr]
          have hno : base + t ∉ D.idsL (List.replicate n.toNat (i.zero.map ZK.d)).flatten := by
            have hz : ∀ d ∈ (List.replicate n.toNat (i.zero.map ZK.d)).flatten, d.ids = [] := fun d hd => by
              obtain ⟨l, hl, hd⟩ := List.mem_flatten.1 hd
              obtain ⟨_, rfl⟩ := List.mem_replicate.1 hl
              obtain ⟨q, _, rfl⟩ := List.mem_map.1 hd
              cases q <;> rfl
            generalize (List.replicate n.toNat (i.zero.map ZK.d)).flatten = l at hz
            have : D.idsL l = [] := by
              clear hrel hN hr hrun
              induction l with
              | nil => rfl
              | cons q r ih => simp [D.idsL, hz q List.mem_cons_self, ih fun d hd => hz d (List.mem_cons_of_mem _ hd)]
            rw [this]; simp
          unfold Oper.wp
          rw [hrun]
          exact ⟨_, _, hN, newBox_sim hs e h1 h2 hno hrel (.ms (g := w.heap.size) (by simp [Ghost.addBox]) (Nat.le_refl _) (by simp only [maxLen]; omega))⟩
        · obtain ⟨⟨h1, h2, h3, h4, h5⟩, h6, h7, hN⟩ := h
          subst h3
          obtain ⟨inf, z, i1, i2, i3, i4, _⟩ := madeCells_rel (G := G) (w := w) hi h2 m.toNat
          have hr := run_make (P := S.P) w T e inf z hu i1 i2 k k' 0 m (Int.le_refl _) h4 (by rw [i4]; exact h6) h7
          rw [i3] at hr
          have hrun : (execOp a.eval ⟨some t, .makeSlice T l c, type, pos, after, guard⟩).run S.P w = .ok (.value (.slice (some ⟨w.heap.size, 0, none⟩) 0 m.toNat)) (w.alloc (.cells (madeCells z.cells (m.toNat * i.size)) e)) := by
            simp [execOp, hul, huc, hr]
          unfold Oper.wp
          rw [hrun]
          have hps := purge_sim hs (fun k => k == 1000 * (t + 1))
          have hst := fresh_step hps (madeCells z.cells (m.toNat * i.size)) e i.size 0 h2 (Nat.zero_le _) (1000 * (t + 1)) G.τ (fun _ => .inr rfl)
          -- the same without the draw
          have hst' : TokStep B G (({ G.grow w.heap.size 0 with τ := G.τ } : Ghost).setTok (1000 * (t + 1)) (some (some (w.heap.size, e, i.size)))) w (w.alloc (.cells (madeCells z.cells (m.toNat * i.size)) e)) (1000 * (t + 1)) :=
            { mono := ⟨fun b o v q1 q2 => hst.mono.cell b o v q1 q2, hst.mono.lab⟩
              beta := hst.beta, lab := hst.lab, sz := by simp, os := rfl, tape := rfl, out := rfl
              tau := hst.tau, block := hst.block, new := hst.new, live := hst.live }
          have hsim := tokStep_sim hps hst' h5 (tk := 1000 * (t + 1) :: L.toks) (fun k hk => by
            rcases List.mem_cons.1 hk with rfl | hk
            · exact .inl rfl
            · by_cases hkt : k = 1000 * (t + 1)
              · exact .inl hkt
              · exact .inr ⟨by simp [Ghost.setTok, hkt, Ghost.grow], hk⟩)
          refine ⟨_, _, hN, hsim.put h1 ?_⟩
          have hnew : (w.alloc (.cells (madeCells z.cells (m.toNat * i.size)) e)).heap[w.heap.size]? = some (.cells (madeCells z.cells (m.toNat * i.size)) e (0, 0)) := heap_alloc_new w _
          refine .sl (b := w.heap.size) (o := 0) (s := i.size) rfl (Nat.zero_le _) (by simp only [maxLen]; omega) ?_ (.inl rfl) (by simp) (by simp [flat]) (by simp [flat]) (by simp [flat])
          simp only [TkOk, Ghost.setTok, if_true]
          refine ⟨⟨trivial, trivial⟩, trivial, by simp [Ghost.grow], ?_, by simp⟩
          unfold World.shape?
          simp only [hnew, size_madeCells]
    · exact h.elim
  · -- append
    rename_i args tys hop
    obtain rfl : op = .call ⟨.builtin .append, args, tys⟩ := hop
    dsimp only at h
    split at h
    · rename_i t ty ty' htys
      obtain ⟨rfl, h⟩ := h
      obtain ⟨ds, hds, h⟩ := someK_get h
      obtain ⟨e1, e2⟩ := mapO_sound hs hds
      unfold appendY at h
      split at h
      · rename_i e hk
        obtain ⟨i, hi, h⟩ := someK_get h
        split at h
        · rename_i tk xs tk2 ys
          obtain ⟨⟨h1, h2, h3⟩, h4, h5, h6, h7, h8, hN⟩ := h
          have hal : (args.toList.map a.eval).length = 2 := by simpa using e1.symm
          obtain ⟨u, v, hu⟩ := length_two hal
          have hx := e2 0 _ u rfl (by rw [hu]; rfl)
          have hy := e2 1 _ v rfl (by rw [hu]; rfl)
          obtain ⟨v', G', w', q1, q2, q3⟩ := append_sound (ty := type) (purge_sim hs (fun k => k == 1000 * (t + 1))) h3 hk hi h2 hx hy h4 h5 h6 h7 h8
          have ha : args.map a.eval = #[u, v] := by rw [← Array.toArray_toList (xs := args.map a.eval), Array.toList_map, hu]
          have ht : tys = #[ty, ty] := by rw [← Array.toArray_toList (xs := tys), htys]
          have hrun : (execOp a.eval ⟨some t, .call ⟨.builtin .append, args, tys⟩, type, pos, after, guard⟩).run S.P w = .ok (.value v') w' := by
            simp [execOp, resolve, invoke, builtin, ha, ht, q1]
          unfold Oper.wp
          rw [hrun]
          exact ⟨_, _, hN, q2.put h1 q3⟩
        · exact h.elim
      · exact h.elim
    · exact h.elim
  · exact quiet h

end Go.Lg
