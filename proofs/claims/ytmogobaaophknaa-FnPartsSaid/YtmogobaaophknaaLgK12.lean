/-
  Lg: LgPtr, one behind the other.
-/
import Derived.Test.YtmogobaaophknaaLgK3
import Derived.Test.YtmogobaaophknaaLgK10
/-
  Lg: a call that returns a pointer to a variable of its own.
-/
namespace Go.Lg
open Go Go.RowKit
theorem callP_sound {S : Setup} {B : Base} {L : LS} {G : Ghost} {a : Act} {w : World} (h : Sim B L G a w) {f : FuncId} {ro : List (Nat × List D)} {ds cs0 : List D} {j0 : Nat} {vals : Array Value} (id : Nat) (hfix : id ∉ L.fix)
  (hv : vals.size = ds.length) (hr : ∀ (j : Nat) d v, ds[j]? = some d → vals[j]? = some v → Rel G w d v) (hro : ∀ p ∈ ro, L.getBox p.1 = some p.2)
  (fc : FC S f ro [] [] ds (.box j0 0) [(j0, cs0)] []) (hmo : ∀ d ∈ cs0, d.memOk = true) :
  Calls S.P f vals w fun e w' => ∃ v G', e = .returned v ∧ Sim B { L.forget id with boxes := setA (L.forget id).boxes id cs0 } G' a w' ∧ Rel G' w' (.box id 0) v := by
 have hW := h.W
 let G1 : Ghost := { G with τ := fun _ => none }
 have hm1 : Mono G G1 w w := ⟨fun _ _ _ h1 h2 => ⟨h1, h2⟩, fun _ _ => rfl⟩
 have r1 : ∀ {d v}, Rel G w d v → Rel G1 w d v := fun hr => hr.mono hm1 (fun _ _ _ h => h) (fun k _ => .inl rfl)
 have hb1 : ∀ {g cs}, BoxAt G w g cs → BoxAt G1 w g cs := fun ⟨vs, e, e1, e2, e3⟩ => ⟨vs, e, e1, e2, fun j d v hd hv => r1 (e3 j d v hd hv)⟩
 have hab : ∀ b, ¬ (baseOf G1 w [] []).ab b := by
  rintro b (⟨p, hp, _⟩ | ⟨k, hk, _⟩)
  ·cases hp
  ·cases hk
 have hget : ∀ id cs, L.getBox id = some cs → ∃ g, G.β id = some g ∧ BoxAt G w g cs := fun id cs hgb => by
  unfold LS.getBox at hgb
  split at hgb
  ·rename_i c hc
   obtain rfl : c = cs := by simpa using hgb
   obtain ⟨g, h1, h2, _⟩ := hW.boxes id c hc
   exact ⟨g, h1, h2⟩
  ·obtain ⟨g, h1, h2, _⟩ := hW.robs id cs hgb
   exact ⟨g, h1, h2⟩
 have hstart : Sim (baseOf G1 w [] []) ⟨ds.length, enumD 0 ds, [], ro, [], []⟩ G1 ⟨vals, []⟩ w := by
  refine ⟨rfl, hv, fun t d hd => ?_, ?_, fun p hp => by cases hp⟩
  ·rw [look_enumD] at hd
   simp only [Nat.zero_le, if_true, Nat.sub_zero] at hd
   have hlt : t < vals.size := by rw [hv]; exact (List.getElem?_eq_some_iff.1 hd).1
   exact ⟨vals[t], by simp [hlt], r1 (hr t d _ hd (by simp [hlt]))⟩
  ·exact {
    boxes := fun id cs hl => by cases hl
    robs := fun id cs hl => by
     obtain ⟨g, h1, h2⟩ := hget id cs (hro _ (mem_of_look hl))
     exact ⟨g, h1, hb1 h2, hW.blt _ _ h1, hab g⟩
    toks := fun k hk => by cases hk
    tau := fun k g e z hk => by cases hk
    tinj := fun k k' g e z e' z' hk => by cases hk
    binj := hW.binj
    blt := hW.blt
    lablt := hW.lablt
    old := fun _ _ _ => ⟨rfl, rfl⟩
    olda := fun _ _ => ⟨Nat.le_refl _, fun _ _ _ h => h⟩
    oldl := fun _ _ _ => rfl
    tlab := fun k g e z hk => by cases hk
    blab := hW.blab
    oldu := fun _ _ _ h => h
    labw := fun b hb hor => by
     rcases hor with hor | hor
     ·exact absurd (hW.lablt b hb) (Nat.not_lt.2 hor)
     ·exact absurd hor (hab b)
    ids := fun p hp => by cases hp
    sz := Nat.le_refl _
    os := rfl
    tape := rfl
    out := rfl
    dr := by first | exact Nat.le_refl _ | exact Nat.le_succ _ }
 refine (fc.2 w G1 vals hstart).mono ?_
 rintro e' w' ⟨v, G', he, hend⟩
 have hE := hend.W
 obtain ⟨v', hv', hrel⟩ := hend.env 0 _ rfl
 obtain rfl : v = v' := by simpa using hv'
 cases hrel with
 | @box _ _ b hb0 =>
 obtain ⟨b', hβb, ⟨cur, e2, t3, t4, t6⟩, t5, t1⟩ := hE.boxes j0 cs0 (by simp [look])
 obtain rfl : b' = b := Option.some.inj (hβb.symm.trans hb0)
 have hg : w.heap.size ≤ b' := t1.resolve_right (hab b')
 have hold : ∀ q, q < w.heap.size → w'.heap[q]? = w.heap[q]? ∧ G'.lim q = G.lim q := fun q hq => hE.old q hq (hab q)
 have hlim : ∀ q, q < w.heap.size → (Ghost.thaw G G' b' id).lim q = G.lim q := fun q hq => by
  simp only [Ghost.thaw]
  rw [if_neg (by omega)]
  exact (hold q hq).2
 have hmn : Mono G (Ghost.thaw G G' b' id) w w' := by
  refine ⟨fun q j u h1 h2 => ?_, fun q hq => hE.oldl q (hW.lablt q hq) hq⟩
  have hlt := cell_lt h2
  exact ⟨by rw [hlim q hlt]; exact h1, by rw [cell_of_heap (hold q hlt).1]; exact h2⟩
 have hβ : ∀ i g, i ≠ id → G.β i = some g → (Ghost.thaw G G' b' id).β i = some g := fun i g hne hg => by simp only [Ghost.thaw]; rw [if_neg hne]; exact hg
 have rG : ∀ {d v}, id ∉ d.ids → Rel G w d v → Rel (Ghost.thaw G G' b' id) w' d v := fun {d v} hid hr =>
  hr.mono hmn (fun i hi g hg => hβ i g (fun e => hid (e ▸ hi)) hg) (fun k _ => .inr ⟨rfl, fun g e' z hk => by
   obtain ⟨_, _, ⟨cur, hc, _⟩, _⟩ := hW.tau k g e' z hk
   have hlt := heap_lt hc
   exact ⟨hlim g hlt, shape_of_heap (hold g hlt).1⟩⟩)
 have hbox : ∀ {g cs}, id ∉ D.idsL cs → BoxAt G w g cs → BoxAt (Ghost.thaw G G' b' id) w' g cs := fun {g cs} hid ⟨vs, e', e1, e2, e3⟩ =>
  ⟨vs, e', by rw [(hold _ (heap_lt e1)).1]; exact e1, e2, fun j d v hd hv => rG (fun hi => hid (mem_idsL (List.mem_of_getElem? hd) hi)) (e3 j d v hd hv)⟩
 have rE : ∀ {d v}, d.memOk = true → Rel G' w' d v → Rel (Ghost.thaw G G' b' id) w' d v := fun {d v} hm hr =>
  hr.mono (show Mono G' (Ghost.thaw G G' b' id) w' w' from ⟨fun q j u h1 h2 => ⟨by
   simp only [Ghost.thaw]
   split
   ·rename_i e; subst e; omega
   ·exact h1, h2⟩, fun _ _ => rfl⟩) (by rw [memOk_ids hm]; simp) (by rw [memOk_tks hm]; simp)
 refine ⟨_, Ghost.thaw G G' b' id, he, ⟨h.defers, h.size, fun t' d hd => ?_, ?_, h.fixed⟩, ?_⟩
 ·simp only [LS.forget] at hd
  obtain ⟨h1, h2⟩ := look_keepA _ _ _ _ hd
  obtain ⟨v, h3, h4⟩ := h.env t' d h1
  exact ⟨v, h3, rG (noId_spec h2) h4⟩
 ·exact {
   boxes := fun i cs' hl => by
    simp only [look_setA] at hl
    by_cases e0 : id = i
    ·subst e0
     simp only [if_true, Option.some.injEq] at hl
     subst hl
     exact ⟨b', by simp [Ghost.thaw], ⟨cur, e2, t3, t4, fun j d v hd hv => rE (hmo d (List.mem_of_getElem? hd)) (t6 j d v hd hv)⟩, by simp [Ghost.thaw], .inl (Nat.le_trans hW.sz hg)⟩
    ·rw [if_neg e0] at hl
     simp only [LS.forget, look_eraseK, if_neg e0] at hl
     obtain ⟨h1, h2⟩ := look_keepA _ _ _ _ hl
     obtain ⟨g, k1, k2, k3, k4⟩ := hW.boxes i cs' h1
     exact ⟨g, hβ i g (fun e => e0 e.symm) k1, hbox (noIdL_spec h2) k2, by rw [hlim g (hW.blt _ _ k1)]; exact k3, k4⟩
   robs := fun i cs' hl => by
    simp only [LS.forget, look_eraseK] at hl
    by_cases e0 : id = i
    ·rw [if_pos e0] at hl; cases hl
    ·rw [if_neg e0] at hl
     obtain ⟨h1, h2⟩ := look_keepA _ _ _ _ hl
     obtain ⟨g, k1, k2, k3⟩ := hW.robs i cs' h1
     exact ⟨g, hβ i g (fun e => e0 e.symm) k1, hbox (noIdL_spec h2) k2, k3⟩
   toks := hW.toks
   tau := fun k g e' z hk => by
    obtain ⟨h1, h2, ⟨cur, h3, h4⟩, h5⟩ := hW.tau k g e' z hk
    have hlt := heap_lt h3
    refine ⟨h1, h2, ⟨cur, by rw [(hold _ hlt).1]; exact h3, by rw [hlim _ hlt]; exact h4⟩, fun i hi => ?_⟩
    simp only [Ghost.thaw] at hi
    split at hi
    ·have := Option.some.inj hi
     omega
    ·exact h5 i hi
   tinj := hW.tinj
   binj := fun i j g hi hj => by
    simp only [Ghost.thaw] at hi hj
    split at hi <;> split at hj
    ·omega
    ·have := hW.blt _ _ hj
     have := Option.some.inj hi
     omega
    ·have := hW.blt _ _ hi
     have := Option.some.inj hj
     omega
    ·exact hW.binj i j g hi hj
   blt := fun i g hi => by
    simp only [Ghost.thaw] at hi
    split at hi
    ·have := Option.some.inj hi
     have := heap_lt t3
     omega
    ·exact Nat.lt_of_lt_of_le (hW.blt _ _ hi) hE.sz
   lablt := hE.lablt
   old := fun q hlt hqa => by
    have hs := hW.sz
    have hq : q < w.heap.size := by omega
    rw [(hold q hq).1, hlim q hq]
    exact hW.old q hlt hqa
   olda := fun q hlt => by
    have hs := hW.sz
    have hq : q < w.heap.size := by omega
    rw [hlim q hq]
    refine ⟨(hW.olda q hlt).1, fun j v hj hc => ?_⟩
    rw [cell_of_heap (hold q hq).1]
    exact (hW.olda q hlt).2 j v hj hc
   oldl := fun q hlt hq => by
    have hs := hW.sz
    have h0 := hW.oldl q hlt hq
    have h1 : G'.lab q = G.lab q := hE.oldl q (show q < w.heap.size by omega) (show G.lab q ≠ [] by rw [h0]; exact hq)
    exact h1.trans h0
   tlab := fun k g e' z hk => by
    obtain ⟨_, _, ⟨cur, h3, _⟩, _⟩ := hW.tau k g e' z hk
    exact hE.oldu g (heap_lt h3) (hab g) (hW.tlab k g e' z hk)
   blab := fun i g hi => by
    simp only [Ghost.thaw] at hi
    split at hi
    ·obtain rfl := Option.some.inj hi
     exact hE.blab j0 _ hβb
    ·exact hE.oldu g (hW.blt _ _ hi) (hab g) (hW.blab i g hi)
   oldu := fun q hlt hqa hq => by
    have hs := hW.sz
    exact hE.oldu q (show q < w.heap.size by omega) (hab q) (hW.oldu q hlt hqa hq)
   labw := fun q hq hor => by
    rcases Nat.lt_or_ge q w.heap.size with hlt | hge
    ·have hq0 : G.lab q ≠ [] := fun e => hq (hE.oldu q hlt (hab q) e)
     obtain ⟨vs, e', h1⟩ := hW.labw q hq0 hor
     exact ⟨vs, e', by rw [(hold q hlt).1]; exact h1⟩
    ·exact hE.labw q hq (.inl hge)
   ids := fun p hp => hβ p.1 p.2 (fun e => hfix (e ▸ h.fixed p hp)) (hW.ids p hp)
   sz := Nat.le_trans hW.sz hE.sz
   os := hE.os.trans hW.os
   tape := hE.tape.trans hW.tape
   out := hE.out.trans hW.out
   dr := Nat.le_trans hW.dr hE.dr }
 ·exact .box (by simp [Ghost.thaw])

theorem LopsW.callP {S : Setup} {B : Base} {ops : Array Oper} {l : List Oper} {L : LS} {K : LS → Prop} {t : Nat} {f : Operand} {args : Array Operand} {tys : Array TypeId} {ty : TypeId} {pos : String} {aft : Array Edge} {g : Option (Nat × Bool)}
  (hg : guardY ops L g = some true) {fid : Nat} {cap ds : List D} {ro : List (Nat × List D)} {cs0 : List D} {j0 : Nat} (id : Nat) (hf : evalO L f = some (.fn fid cap)) (hds : mapO (evalO L) args.toList = some ds) (fc : FC S fid ro [] [] (ds ++ cap) (.box j0 0) [(j0, cs0)] [])
  (hside : (t < L.n ∧ id ∉ L.fix ∧ (∀ p ∈ ro, L.getBox p.1 = some p.2)) ∧ ∀ d ∈ cs0, d.memOk = true)
  (h : LopsW S B ops l ((L.thawed id cs0).put t (.box id 0)) K) : LopsW S B ops (⟨some t, .call ⟨.value f, args, tys⟩, ty, pos, aft, g⟩ :: l) L K := by
 intro G a w hs Q hQ
 obtain ⟨⟨s1, s2, s3⟩, s4⟩ := hside
 refine wpList_step fun N hN => ?_
 rw [if_pos (guardY_sound (S := S) rfl hs (o := ⟨some t, .call ⟨.value f, args, tys⟩, ty, pos, aft, g⟩) hg)]
 obtain ⟨e1, e2⟩ := mapO_sound hs hds
 have hv := eval_sound hs hf
 generalize hu : a.eval f = u at hv
 cases hv with
 | @fn _ _ vl hl hr =>
 have hrun : (execOp a.eval ⟨some t, .call ⟨.value f, args, tys⟩, ty, pos, aft, g⟩).run S.P w = .ok (.enter fid (args.map a.eval ++ vl.toArray)) w := by
  simp [execOp, resolve, hu, Deferred.ofValue, invoke, enter_run fc.1]
 unfold Oper.wp
 rw [hrun, Oper.upon_enter]
 refine (callP_sound hs (vals := args.map a.eval ++ vl.toArray) id s2 ?_ ?_ s3 fc s4).mono ?_
 ·simp at e1
  simp [e1, hl]
 ·intro j d v hd hv
  have hsz : (args.map a.eval).size = ds.length := by simp at e1; simp [e1]
  by_cases hj : j < ds.length
  ·rw [List.getElem?_append_left hj] at hd
   rw [Array.getElem?_append_left (by omega)] at hv
   exact e2 j d v hd (by simpa using hv)
  ·rw [List.getElem?_append_right (by omega)] at hd
   rw [Array.getElem?_append_right (by omega), hsz] at hv
   exact hr _ d v hd (by simpa using hv)
 ·rintro e w' ⟨v, G', rfl, h1, h2⟩
  exact hN _ _ (h G' _ w' (Sim.put (L := L.thawed id cs0) h1 (show t < L.n from s1) h2) Q hQ)

end Go.Lg
