/-
  Lg, part 40: a list that nobody else reads yet is taken for a variable in memory: the result of a call, the result of an append to an empty list.
-/
import Derived.Test.YtenjmepbaajkjaaLgRun
import Derived.Test.YtenjmepbaajkjaaLgDraw2
import Derived.Laws.Append
namespace Go.Lg
open Go Go.RowKit

def D.sca : D → Bool
  | .int .. | .bool _ | .str _ => true
  | _ => false
theorem sca_rel {d : D} (h : d.sca = true) {G G' : Ghost} {w w' : World} {v : Value} (hr : Rel G w d v) : Rel G' w' d v := by
  cases hr <;> first | exact .int | exact .bool | exact .str | (simp [D.sca] at h)
theorem sca_ids {d : D} (h : d.sca = true) : d.ids = [] := by cases d <;> first | rfl | (simp [D.sca] at h)

def Ghost.thaw (G G' : Ghost) (g id : Nat) : Ghost := { lim := fun b => if b = g then 0 else G'.lim b, lab := G'.lab, β := fun i => if i = id then some g else G.β i, τ := G.τ }

theorem callM_sound {S : Setup} {B : Base} {L : LS} {G : Ghost} {a : Act} {w : World} (h : Sim B L G a w) {f : FuncId} {ro : List (Nat × List D)} {ds cs0 : List D} {j0 n0 : Nat} {vals : Array Value} (id : Nat) (hfix : id ∉ L.fix)
    (hv : vals.size = ds.length) (hr : ∀ (j : Nat) d v, ds[j]? = some d → vals[j]? = some v → Rel G w d v) (hro : ∀ p ∈ ro, L.getBox p.1 = some p.2)
    (fc : FC S f ro [] [] ds (.ms j0 n0) [(j0, cs0)] []) (hmo : ∀ d ∈ cs0, d.memOk = true) :
    Calls S.P f vals w fun e w' => ∃ v G', e = .returned v ∧ Sim B { L.forget id with boxes := setA (L.forget id).boxes id cs0 } G' a w' ∧ Rel G' w' (.ms id n0) v := by
  have hW := h.W
  let G1 : Ghost := { G with τ := fun _ => none }
  have hm1 : Mono G G1 w w := ⟨fun _ _ _ h1 h2 => ⟨h1, h2⟩, fun _ _ => rfl⟩
  have r1 : ∀ {d v}, Rel G w d v → Rel G1 w d v := fun hr => hr.mono hm1 (fun _ _ _ h => h) (fun k _ => .inl rfl)
  have hb1 : ∀ {g cs}, BoxAt G w g cs → BoxAt G1 w g cs := fun ⟨vs, e, e1, e2, e3⟩ => ⟨vs, e, e1, e2, fun j d v hd hv => r1 (e3 j d v hd hv)⟩
  have hab : ∀ b, ¬ (baseOf G1 w [] []).ab b := by
    rintro b (⟨p, hp, _⟩ | ⟨k, hk, _⟩)
    · cases hp
    · cases hk
  have hget : ∀ id cs, L.getBox id = some cs → ∃ g, G.β id = some g ∧ BoxAt G w g cs := fun id cs hgb => by
    unfold LS.getBox at hgb
    split at hgb
    · rename_i c hc
      obtain rfl : c = cs := by simpa using hgb
      obtain ⟨g, h1, h2, _⟩ := hW.boxes id c hc
      exact ⟨g, h1, h2⟩
    · obtain ⟨g, h1, h2, _⟩ := hW.robs id cs hgb
      exact ⟨g, h1, h2⟩
  have hstart : Sim (baseOf G1 w [] []) ⟨ds.length, enumD 0 ds, [], ro, [], []⟩ G1 ⟨vals, []⟩ w := by
    refine ⟨rfl, hv, fun t d hd => ?_, ?_, fun p hp => by cases hp⟩
    · rw [look_enumD] at hd
      simp only [Nat.zero_le, if_true, Nat.sub_zero] at hd
      have hlt : t < vals.size := by rw [hv]; exact (List.getElem?_eq_some_iff.1 hd).1
      exact ⟨vals[t], by simp [hlt], r1 (hr t d _ hd (by simp [hlt]))⟩
    · exact {
        boxes := fun id cs hl => by cases hl
        robs := fun id cs hl => by
          obtain ⟨g, h1, h2⟩ := hget id cs (hro _ (mem_of_look hl))
          exact ⟨g, h1, hb1 h2, hW.blt _ _ h1, hab g⟩
        toks := fun k hk => by cases hk
        tau := fun k g e z hk => by cases hk
        tinj := fun k k' g e z e' z' hk => by cases hk
        binj := hW.binj
        blt := hW.blt
        lablt := hW.lablt
        old := fun _ _ _ => ⟨rfl, rfl⟩
        olda := fun _ _ => ⟨Nat.le_refl _, fun _ _ _ h => h⟩
        oldl := fun _ _ _ => rfl
        tlab := fun k g e z hk => by cases hk
        blab := hW.blab
        oldu := fun _ _ _ h => h
        labw := fun b hb hor => by
          rcases hor with hor | hor
          · exact absurd (hW.lablt b hb) (Nat.not_lt.2 hor)
          · exact absurd hor (hab b)
        ids := fun p hp => by cases hp
        sz := Nat.le_refl _
        os := rfl
        tape := rfl
        out := rfl }
  refine (fc.2 w G1 vals hstart).mono ?_
  rintro e' w' ⟨v, G', he, hend⟩
  have hE := hend.W
  obtain ⟨v', hv', hrel⟩ := hend.env 0 _ rfl
  obtain rfl : v = v' := by simpa using hv'
  cases hrel with
  | @ms _ _ c b hb0 hc hm =>
  obtain ⟨b', hβb, ⟨cur, e2, t3, t4, t6⟩, t5, t1⟩ := hE.boxes j0 cs0 (by simp [look])
  obtain rfl : b' = b := Option.some.inj (hβb.symm.trans hb0)
  have hg : w.heap.size ≤ b' := t1.resolve_right (hab b')
  have hold : ∀ q, q < w.heap.size → w'.heap[q]? = w.heap[q]? ∧ G'.lim q = G.lim q := fun q hq => hE.old q hq (hab q)
  have hlim : ∀ q, q < w.heap.size → (Ghost.thaw G G' b' id).lim q = G.lim q := fun q hq => by
    simp only [Ghost.thaw]
    rw [if_neg (by omega)]
    exact (hold q hq).2
  have hmn : Mono G (Ghost.thaw G G' b' id) w w' := by
    refine ⟨fun q j u h1 h2 => ?_, fun q hq => hE.oldl q (hW.lablt q hq) hq⟩
    have hlt := cell_lt h2
    exact ⟨by rw [hlim q hlt]; exact h1, by rw [cell_of_heap (hold q hlt).1]; exact h2⟩
  have hβ : ∀ i g, i ≠ id → G.β i = some g → (Ghost.thaw G G' b' id).β i = some g := fun i g hne hg => by simp only [Ghost.thaw]; rw [if_neg hne]; exact hg
  have rG : ∀ {d v}, id ∉ d.ids → Rel G w d v → Rel (Ghost.thaw G G' b' id) w' d v := fun {d v} hid hr =>
    hr.mono hmn (fun i hi g hg => hβ i g (fun e => hid (e ▸ hi)) hg) (fun k _ => .inr ⟨rfl, fun g e' z hk => by
      obtain ⟨_, _, ⟨cur, hc, _⟩, _⟩ := hW.tau k g e' z hk
      have hlt := heap_lt hc
      exact ⟨hlim g hlt, shape_of_heap (hold g hlt).1⟩⟩)
  have hbox : ∀ {g cs}, id ∉ D.idsL cs → BoxAt G w g cs → BoxAt (Ghost.thaw G G' b' id) w' g cs := fun {g cs} hid ⟨vs, e', e1, e2, e3⟩ =>
    ⟨vs, e', by rw [(hold _ (heap_lt e1)).1]; exact e1, e2, fun j d v hd hv => rG (fun hi => hid (mem_idsL (List.mem_of_getElem? hd) hi)) (e3 j d v hd hv)⟩
  have rE : ∀ {d v}, d.memOk = true → Rel G' w' d v → Rel (Ghost.thaw G G' b' id) w' d v := fun {d v} hm hr =>
    hr.mono (show Mono G' (Ghost.thaw G G' b' id) w' w' from ⟨fun q j u h1 h2 => ⟨by
      simp only [Ghost.thaw]
      split
      · rename_i e; subst e; omega
      · exact h1, h2⟩, fun _ _ => rfl⟩) (by rw [memOk_ids hm]; simp) (by rw [memOk_tks hm]; simp)
  refine ⟨_, Ghost.thaw G G' b' id, he, ⟨h.defers, h.size, fun t' d hd => ?_, ?_, h.fixed⟩, ?_⟩
  · simp only [LS.forget] at hd
    obtain ⟨h1, h2⟩ := look_keepA _ _ _ _ hd
    obtain ⟨v, h3, h4⟩ := h.env t' d h1
    exact ⟨v, h3, rG (noId_spec h2) h4⟩
  · exact {
      boxes := fun i cs' hl => by
        simp only [look_setA] at hl
        by_cases e0 : id = i
        · subst e0
          simp only [if_true, Option.some.injEq] at hl
          subst hl
          exact ⟨b', by simp [Ghost.thaw], ⟨cur, e2, t3, t4, fun j d v hd hv => rE (hmo d (List.mem_of_getElem? hd)) (t6 j d v hd hv)⟩, by simp [Ghost.thaw], .inl (Nat.le_trans hW.sz hg)⟩
        · rw [if_neg e0] at hl
          simp only [LS.forget, look_eraseK, if_neg e0] at hl
          obtain ⟨h1, h2⟩ := look_keepA _ _ _ _ hl
          obtain ⟨g, k1, k2, k3, k4⟩ := hW.boxes i cs' h1
          exact ⟨g, hβ i g (fun e => e0 e.symm) k1, hbox (noIdL_spec h2) k2, by rw [hlim g (hW.blt _ _ k1)]; exact k3, k4⟩
      robs := fun i cs' hl => by
        simp only [LS.forget, look_eraseK] at hl
        by_cases e0 : id = i
        · rw [if_pos e0] at hl; cases hl
        · rw [if_neg e0] at hl
          obtain ⟨h1, h2⟩ := look_keepA _ _ _ _ hl
          obtain ⟨g, k1, k2, k3⟩ := hW.robs i cs' h1
          exact ⟨g, hβ i g (fun e => e0 e.symm) k1, hbox (noIdL_spec h2) k2, k3⟩
      toks := hW.toks
      tau := fun k g e' z hk => by
        obtain ⟨h1, h2, ⟨cur, h3, h4⟩, h5⟩ := hW.tau k g e' z hk
        have hlt := heap_lt h3
        refine ⟨h1, h2, ⟨cur, by rw [(hold _ hlt).1]; exact h3, by rw [hlim _ hlt]; exact h4⟩, fun i hi => ?_⟩
        simp only [Ghost.thaw] at hi
        split at hi
        · have := Option.some.inj hi
          omega
        · exact h5 i hi
      tinj := hW.tinj
      binj := fun i j g hi hj => by
        simp only [Ghost.thaw] at hi hj
        split at hi <;> split at hj
        · omega
        · have := hW.blt _ _ hj
          have := Option.some.inj hi
          omega
        · have := hW.blt _ _ hi
          have := Option.some.inj hj
          omega
        · exact hW.binj i j g hi hj
      blt := fun i g hi => by
        simp only [Ghost.thaw] at hi
        split at hi
        · have := Option.some.inj hi
          have := heap_lt t3
          omega
        · exact Nat.lt_of_lt_of_le (hW.blt _ _ hi) hE.sz
      lablt := hE.lablt
      old := fun q hlt hqa => by
        have hs := hW.sz
        have hq : q < w.heap.size := by omega
        rw [(hold q hq).1, hlim q hq]
        exact hW.old q hlt hqa
      olda := fun q hlt => by
        have hs := hW.sz
        have hq : q < w.heap.size := by omega
        rw [hlim q hq]
        refine ⟨(hW.olda q hlt).1, fun j v hj hc => ?_⟩
        rw [cell_of_heap (hold q hq).1]
        exact (hW.olda q hlt).2 j v hj hc
      oldl := fun q hlt hq => by
        have hs := hW.sz
        have h0 := hW.oldl q hlt hq
        have h1 : G'.lab q = G.lab q := hE.oldl q (show q < w.heap.size by omega) (show G.lab q ≠ [] by rw [h0]; exact hq)
        exact h1.trans h0
      tlab := fun k g e' z hk => by
        obtain ⟨_, _, ⟨cur, h3, _⟩, _⟩ := hW.tau k g e' z hk
        exact hE.oldu g (heap_lt h3) (hab g) (hW.tlab k g e' z hk)
      blab := fun i g hi => by
        simp only [Ghost.thaw] at hi
        split at hi
        · obtain rfl := Option.some.inj hi
          exact hE.blab j0 _ hβb
        · exact hE.oldu g (hW.blt _ _ hi) (hab g) (hW.blab i g hi)
      oldu := fun q hlt hqa hq => by
        have hs := hW.sz
        exact hE.oldu q (show q < w.heap.size by omega) (hab q) (hW.oldu q hlt hqa hq)
      labw := fun q hq hor => by
        rcases Nat.lt_or_ge q w.heap.size with hlt | hge
        · have hq0 : G.lab q ≠ [] := fun e => hq (hE.oldu q hlt (hab q) e)
          obtain ⟨vs, e', h1⟩ := hW.labw q hq0 hor
          exact ⟨vs, e', by rw [(hold q hlt).1]; exact h1⟩
        · exact hE.labw q hq (.inl hge)
      ids := fun p hp => hβ p.1 p.2 (fun e => hfix (e ▸ h.fixed p hp)) (hW.ids p hp)
      sz := Nat.le_trans hW.sz hE.sz
      os := hE.os.trans hW.os
      tape := hE.tape.trans hW.tape
      out := hE.out.trans hW.out }
  · exact .ms (by simp [Ghost.thaw]) hc hm

/-- A contract's own list, taken for memory. -/
theorem FC.thaw {S : Setup} {f : FuncId} {ro : List (Nat × List D)} {args xs : List D} {e0 : TypeId} {z0 : Nat} (fc : FC S f ro [] [] args (.sl (.own 0 e0 z0) xs) [] [0]) (hne : xs ≠ []) (hsc : ∀ d ∈ flat xs, d.sca = true) :
    FC S f ro [] [] args (.ms 0 xs.length) [(0, flat xs)] [] := ⟨fc.1, fun w G vals hs => (fc.2 w G vals hs).mono fun e' w' ⟨v, G', he, hend⟩ => by
  have hE := hend.W
  obtain ⟨v', hv', hrel⟩ := hend.env 0 _ rfl
  obtain rfl : v = v' := by simpa using hv'
  obtain ⟨x, hx⟩ := hE.toks 0 (by simp)
  cases hrel with
  | @sl _ _ A n c b o s hn hc hm ht hA hu hk hst hrr =>
  have hA' := hA.resolve_left hne
  subst hA'
  simp only [TkOk, hx] at ht
  match x, hx, ht with
  | none, _, ht => exact absurd (List.length_eq_zero_iff.1 (hn.symm.trans ht.1)) hne
  | some (g, e2, z2), hx, ht =>
  obtain ⟨⟨rfl, rfl⟩, h2, h3, h4, h5⟩ := ht
  simp only [Option.some.injEq, Addr.mk.injEq, and_true] at h2
  obtain ⟨rfl, rfl⟩ := h2
  have hab : ∀ b, ¬ (baseOf G w [] []).ab b := by
    rintro b (⟨p, hp, _⟩ | ⟨k, hk, _⟩)
    · cases hp
    · cases hk
  obtain ⟨t1, t2, ⟨cur, t3, t4⟩, t5⟩ := hE.tau 0 b e2 z2 hx
  have hg : w.heap.size ≤ b := t1.resolve_right (hab b)
  have hfl : (flat xs).length = xs.length * z2 := flat_length h5
  refine ⟨_, { lim := fun q => if q = b then 0 else G'.lim q, lab := G'.lab, β := fun i => if i = 0 then some b else none, τ := fun _ => none }, he, ⟨rfl, rfl, fun t d hd => ?_, ?_, fun p hp => by cases hp⟩⟩
  · simp only [look] at hd
    split at hd
    · rename_i e
      subst e
      obtain rfl := Option.some.inj hd
      exact ⟨_, rfl, by rw [hn]; exact .ms (by simp) (hn ▸ hc) hm⟩
    · cases hd
  · exact {
      boxes := fun i cs' hl => by
        simp only [look] at hl
        split at hl
        · rename_i e
          subst e
          obtain rfl := Option.some.inj hl
          refine ⟨b, by simp, ⟨cur, e2, t3, by rw [hfl, ← hn, h3]; exact t4, fun j d v hd hv => ?_⟩, by simp, .inl hg⟩
          have hc : w'.cell? ⟨b, 0 + j, none⟩ = some v := by
            rw [Nat.zero_add]
            unfold World.cell?
            simp only [t3]
            exact hv
          exact sca_rel (hsc d (List.mem_of_getElem? hd)) (hrr j d v hd hc)
        · cases hl
      robs := fun i cs' hl => by cases hl
      toks := fun k hk => by cases hk
      tau := fun k g e' z hk => by cases hk
      tinj := fun k k' g e z e' z' hk => by cases hk
      binj := fun i j g hi hj => by
        simp only at hi hj
        split at hi <;> split at hj
        · omega
        · cases hj
        · cases hi
        · cases hi
      blt := fun i g hi => by
        simp only at hi
        split at hi
        · obtain rfl := Option.some.inj hi; exact heap_lt t3
        · cases hi
      lablt := hE.lablt
      old := fun q hlt hqa => by
        have hlt' : q < w.heap.size := hlt
        obtain ⟨k1, k2⟩ := hE.old q hlt hqa
        exact ⟨k1, by simp only; rw [if_neg (by omega)]; exact k2⟩
      olda := fun q hlt => by
        have hlt' : q < w.heap.size := hlt
        simp only
        rw [if_neg (by omega)]
        exact hE.olda q hlt
      oldl := hE.oldl
      tlab := fun k g e z hk => by cases hk
      blab := fun i g hi => by
        simp only at hi
        split at hi
        · obtain rfl := Option.some.inj hi; exact hE.tlab 0 _ e2 z2 hx
        · cases hi
      oldu := hE.oldu
      labw := hE.labw
      ids := fun p hp => by cases hp
      sz := hE.sz
      os := hE.os
      tape := hE.tape
      out := hE.out }⟩

/-- The state behind such a call. -/
def LS.thawed (L : LS) (id : Nat) (cs : List D) : LS := { L.forget id with boxes := setA (L.forget id).boxes id cs }
theorem LopsW.callM {S : Setup} {B : Base} {ops : Array Oper} {l : List Oper} {L : LS} {K : LS → Prop} {t : Nat} {f : Operand} {args : Array Operand} {tys : Array TypeId} {ty : TypeId} {pos : String} {aft : Array Edge} {g : Option (Nat × Bool)}
    (hg : guardY ops L g = some true) {fid : Nat} {cap ds : List D} {ro : List (Nat × List D)} {cs0 : List D} {j0 n0 : Nat} (id : Nat) (hf : evalO L f = some (.fn fid cap)) (hds : mapO (evalO L) args.toList = some ds) (fc : FC S fid ro [] [] (ds ++ cap) (.ms j0 n0) [(j0, cs0)] [])
    (hside : (t < L.n ∧ id ∉ L.fix ∧ (∀ p ∈ ro, L.getBox p.1 = some p.2)) ∧ ∀ d ∈ cs0, d.memOk = true)
    (h : LopsW S B ops l ((L.thawed id cs0).put t (.ms id n0)) K) : LopsW S B ops (⟨some t, .call ⟨.value f, args, tys⟩, ty, pos, aft, g⟩ :: l) L K := by
  intro G a w hs Q hQ
  obtain ⟨⟨s1, s2, s3⟩, s4⟩ := hside
  refine wpList_step fun N hN => ?_
  rw [if_pos (guardY_sound (S := S) rfl hs (o := ⟨some t, .call ⟨.value f, args, tys⟩, ty, pos, aft, g⟩) hg)]
  obtain ⟨e1, e2⟩ := mapO_sound hs hds
  have hv := eval_sound hs hf
  generalize hu : a.eval f = u at hv
  cases hv with
  | @fn _ _ vl hl hr =>
  have hrun : (execOp a.eval ⟨some t, .call ⟨.value f, args, tys⟩, ty, pos, aft, g⟩).run S.P w = .ok (.enter fid (args.map a.eval ++ vl.toArray)) w := by
    simp [execOp, resolve, hu, Deferred.ofValue, invoke, enter_run fc.1]
  unfold Oper.wp
  rw [hrun, Oper.upon_enter]
  refine (callM_sound hs (vals := args.map a.eval ++ vl.toArray) id s2 ?_ ?_ s3 fc s4).mono ?_
  · simp at e1
    simp [e1, hl]
  · intro j d v hd hv
    have hsz : (args.map a.eval).size = ds.length := by simp at e1; simp [e1]
    by_cases hj : j < ds.length
    · rw [List.getElem?_append_left hj] at hd
      rw [Array.getElem?_append_left (by omega)] at hv
      exact e2 j d v hd (by simpa using hv)
    · rw [List.getElem?_append_right (by omega)] at hd
      rw [Array.getElem?_append_right (by omega), hsz] at hv
      exact hr _ d v hd (by simpa using hv)
  · rintro e w' ⟨v, G', rfl, h1, h2⟩
    exact hN _ _ (h G' _ w' (Sim.put (L := L.thawed id cs0) h1 (show t < L.n from s1) h2) Q hQ)

theorem flat_ints (ys : List Int) : flat (ys.map (D.int .i64)) = ys.map (.int .i64) := by
  induction ys with
  | nil => rfl
  | cons y r ih => simp [flat] at ih ⊢; simp [D.cells, ih]
theorem LopsW.callTi {S : Setup} {B : Base} {ops : Array Oper} {l : List Oper} {L : LS} {K : LS → Prop} {t : Nat} {f : Operand} {args : Array Operand} {tys : Array TypeId} {ty : TypeId} {pos : String} {aft : Array Edge} {g : Option (Nat × Bool)}
    (hg : guardY ops L g = some true) {fid : Nat} {cap ds : List D} {ro : List (Nat × List D)} {ys : List Int} {e0 : TypeId} {z0 : Nat} (id : Nat) (hf : evalO L f = some (.fn fid cap)) (hds : mapO (evalO L) args.toList = some ds) (fc : FC S fid ro [] [] (ds ++ cap) (.sl (.own 0 e0 z0) (ys.map (.int .i64))) [] [0])
    (hside : (t < L.n ∧ id ∉ L.fix ∧ (∀ p ∈ ro, L.getBox p.1 = some p.2)) ∧ ys ≠ [])
    (h : LopsW S B ops l ((L.thawed id (ys.map (.int .i64))).put t (.ms id ys.length)) K) : LopsW S B ops (⟨some t, .call ⟨.value f, args, tys⟩, ty, pos, aft, g⟩ :: l) L K := by
  have hsc : ∀ d ∈ flat (ys.map (D.int .i64)), d.sca = true := fun d hd => by
    rw [flat_ints] at hd
    obtain ⟨x, _, rfl⟩ := List.mem_map.1 hd
    rfl
  refine LopsW.callM hg id hf hds (fc.thaw (by simpa using hside.2) hsc) ⟨hside.1, fun d hd => ?_⟩ (by rw [flat_ints, List.length_map]; exact h)
  have := hsc d hd
  cases d <;> first | rfl | (simp [D.sca] at this)
theorem memOk_ints (ys : List Int) : ∀ d ∈ ys.map (D.int .i64), d.memOk = true := fun d hd => by
  obtain ⟨x, _, rfl⟩ := List.mem_map.1 hd
  rfl

/-- An append to an empty list, taken for a variable in memory. -/
theorem LopsW.appT {S : Setup} {B : Base} {ops : Array Oper} {l : List Oper} {L : LS} {K : LS → Prop} {t : Nat} {args : Array Operand} {T e : TypeId} {i : TyI} {ty : TypeId} {pos : String} {aft : Array Edge} (id : Nat)
    {tk tk2 : Tk} {ys : List D} (hds : mapO (evalO L) args.toList = some [.sl tk [], .sl tk2 ys]) (htk : tk = .nil ∨ tk = .full) (hk : S.kd T = some (.slice e)) (hi : S.tab e = some i)
    (hside : (t < L.n ∧ id ∉ L.fix ∧ 0 < i.size) ∧ ys ≠ [] ∧ (∀ y ∈ ys, y.cells.length = i.size) ∧ ys.length * i.bytes ≤ 140737488355328 ∧ ys.length ≤ 140737488355328)
    (h : LopsW S B ops l (L.newBox t id (flat ys) (.ms id ys.length)) K) : LopsW S B ops (⟨some t, .call ⟨.builtin .append, args, #[T, T]⟩, ty, pos, aft, none⟩ :: l) L K := by
  intro G a w hs Q hQ
  obtain ⟨⟨s1, s2, s3⟩, s4, s5, s6, s7⟩ := hside
  refine wpList_step fun N hN => ?_
  rw [if_pos (guardY_sound (S := S) (b := true) rfl hs rfl)]
  obtain ⟨e1, e2⟩ := mapO_sound hs hds
  have hal : (args.toList.map a.eval).length = 2 := by simpa using e1.symm
  obtain ⟨u, v, hu⟩ := length_two hal
  have hx := e2 0 _ u rfl (by rw [hu]; rfl)
  have hy := e2 1 _ v rfl (by rw [hu]; rfl)
  have ha : args.map a.eval = #[u, v] := by rw [← Array.toArray_toList (xs := args.map a.eval), Array.toList_map, hu]
  have ht := kd_slice hk
  obtain ⟨inf, i1, i2, i3, z, i4, i5, _⟩ := (S.ok e i hi).info
  obtain ⟨A, n, c, rfl⟩ : ∃ A n c, u = .slice A n c := by cases hx; exact ⟨_, _, _, rfl⟩
  obtain ⟨A2, m, c2, rfl⟩ : ∃ A n c, v = .slice A n c := by cases hy; exact ⟨_, _, _, rfl⟩
  obtain ⟨yn, yc, ym, yk, yl⟩ := rel_list hy
  have hfy := flat_length s5
  obtain ⟨b2, o2, rfl, news, n1, n2, n3, n4, _⟩ := yl s4
  have hmp : 0 < m := by rw [yn]; exact List.length_pos_iff.2 s4
  have hnl : news.length = m * inf.size := by rw [n1, hfy, yn, i2]
  have hnews : ∀ (j : Nat) u, news[j]? = some u → w.cell? ((⟨b2, o2, none⟩ : Addr).add j) = some u := fun j u hu => by rw [add_mk]; exact n2 j u hu
  have hzero : n = 0 ∧ c = 0 := by
    cases hx with
    | @sl _ _ _ _ _ b o s hn hcc hm htk' hA hu hk0 hstt hrr =>
      have h0 : n = 0 := hn
      rcases htk with rfl | rfl
      · exact ⟨h0, htk'.2.2⟩
      · have : n = c := htk'
        exact ⟨h0, by omega⟩
  obtain ⟨rfl, rfl⟩ := hzero
  have hbytes : m * inf.bytes ≤ 140737488355328 := by rw [i3, yn]; exact s6
  have hzs : z.cells.size = inf.size := by rw [i5, i2]; simp [TyI.size]
  have hrun : (Builtin.append_ #[T, T] ty #[.slice A 0 0, .slice (some ⟨b2, o2, none⟩) m c2]).run S.P w =
      .ok (.slice (some ⟨w.heap.size, 0, none⟩) m (grownCap w m 0 e)) (w.drew.alloc (.cells (news.toArray ++ Builtin.zeroCells z.cells (grownCap w m 0 e - m)) e)) := by
    cases A with
    | none =>
      have hr := run_append_nil (P := S.P) w T ty e inf z ht i1 i4 ⟨b2, o2, none⟩ m c2 news hnl hnews hmp (by omega) (by omega)
      simpa using hr
    | some ad =>
      have hr := run_append_grow (P := S.P) w T ty e inf z ht i1 i4 ad 0 0 [] (by simp) (by simp) ⟨b2, o2, none⟩ m c2 news hnl hnews (by omega) (by omega) (growslice_fits (by omega) (by simpa using hbytes))
      simpa using hr
  have hop : (execOp a.eval ⟨some t, .call ⟨.builtin .append, args, #[T, T]⟩, ty, pos, aft, none⟩).run S.P w = .ok (.value (.slice (some ⟨w.heap.size, 0, none⟩) m (grownCap w m 0 e))) (w.drew.alloc (.cells (news.toArray ++ Builtin.zeroCells z.cells (grownCap w m 0 e - m)) e)) := by
    simp [execOp, resolve, invoke, builtin, ha, hrun]
  unfold Oper.wp
  rw [hop]
  have hcap := grownCap_ge w m 0 e
  have hs' : Sim B L G a w.drew := drew_sim hs
  have hno : id ∉ D.idsL (flat ys) := by
    have : ∀ l : List D, (∀ d ∈ l, d.memOk = true) → D.idsL l = [] := fun l => by
      induction l with
      | nil => intro _; rfl
      | cons q r ih => intro hl; simp [D.idsL, memOk_ids (hl q List.mem_cons_self), ih fun d hd => hl d (List.mem_cons_of_mem _ hd)]
    rw [this _ yk]; simp
  have hnb := newBox_simC (t := t) (id := id) (cs := flat ys) (arr := news.toArray ++ Builtin.zeroCells z.cells (grownCap w m 0 e - m)) hs' e s1 s2 hno ⟨by simp; omega, fun j d u hd hu => by
      have hj := (List.getElem?_eq_some_iff.1 hd).1
      rw [Array.getElem?_append_left (by simp; omega)] at hu
      have hr := n3 j d u hd (by simpa using hu)
      exact hr.mono (show Mono G G w w.drew from ⟨fun _ _ _ h1 h2 => ⟨h1, h2⟩, fun _ _ => rfl⟩) (fun _ _ _ h => h) (fun _ _ => .inr ⟨rfl, fun _ _ _ _ => ⟨rfl, rfl⟩⟩)⟩
    (dd := .ms id ys.length) (vv := .slice (some ⟨w.heap.size, 0, none⟩) m (grownCap w m 0 e)) (by
      rw [yn]
      exact .ms (by simp [Ghost.addBox]) (by rw [← yn]; omega) (by rw [← yn]; exact grownCap_le_maxLen w m 0 e (by omega)))
  exact hN _ _ (h _ _ _ hnb Q hQ)
end Go.Lg
