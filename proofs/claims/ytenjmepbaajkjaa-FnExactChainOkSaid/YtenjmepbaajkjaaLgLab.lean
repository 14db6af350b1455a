/-
  Lg, part 29: labels: new lists are told apart by them.
-/
import Derived.Test.YtenjmepbaajkjaaLgTok
namespace Go.Lg
open Go Go.RowKit

/-- The token 'k' is given up: its block is labelled. -/
noncomputable def Ghost.setLab (G : Ghost) (k : Nat) (l : List Nat) : Ghost :=
  { G with lab := fun b => @ite _ (∃ e z, G.τ k = some (some (b, e, z))) (Classical.propDecidable _) l (G.lab b), τ := fun k' => if k' = k then none else G.τ k' }
theorem setLab_at {G : Ghost} {k : Nat} {l : List Nat} {b : Nat} (h : ∃ e z, G.τ k = some (some (b, e, z))) : (G.setLab k l).lab b = l := by simp only [Ghost.setLab]; rw [if_pos h]
theorem setLab_off {G : Ghost} {k : Nat} {l : List Nat} {b : Nat} (h : ¬ ∃ e z, G.τ k = some (some (b, e, z))) : (G.setLab k l).lab b = G.lab b := by simp only [Ghost.setLab]; rw [if_neg h]

theorem lab_simW {B : Base} {bx ro : List (Nat × List D)} {tk : List Nat} {G : Ghost} {w : World} (hW : SimW B bx ro tk G w) (k : Nat) {l : List Nat} (_hl : l ≠ []) :
    SimW B bx ro (tk.filter fun x => !(x == k)) (G.setLab k l) w ∧ Mono G (G.setLab k l) w w ∧ ∀ {d v}, Rel G w d v → Rel (G.setLab k l) w d v := by
  have hmn : Mono G (G.setLab k l) w w := ⟨fun _ _ _ h1 h2 => ⟨h1, h2⟩, fun b hb => setLab_off (by
    rintro ⟨e, z, h⟩
    exact hb (hW.tlab k b e z h))⟩
  have rG : ∀ {d v}, Rel G w d v → Rel (G.setLab k l) w d v := fun hr => hr.mono hmn (fun _ _ _ h => h) (fun k' _ => by
    by_cases e : k' = k
    · exact .inl (by simp [Ghost.setLab, e])
    · exact .inr ⟨by simp [Ghost.setLab, e], fun _ _ _ _ => ⟨rfl, rfl⟩⟩)
  have hbox : ∀ {g cs}, BoxAt G w g cs → BoxAt (G.setLab k l) w g cs := fun ⟨vs, e, e1, e2, e3⟩ => ⟨vs, e, e1, e2, fun j d v hd hv => rG (e3 j d v hd hv)⟩
  have hτ : ∀ {k' x}, (G.setLab k l).τ k' = some x → k' ≠ k ∧ G.τ k' = some x := fun {k' x} h => by
    simp only [Ghost.setLab] at h
    split at h
    · cases h
    · rename_i hne; exact ⟨hne, h⟩
  refine ⟨?_, hmn, rG⟩
  exact {
    boxes := fun id cs h => by
      obtain ⟨g, h1, h2, h3⟩ := hW.boxes id cs h
      exact ⟨g, h1, hbox h2, h3⟩
    robs := fun id cs h => by
      obtain ⟨g, h1, h2, h3⟩ := hW.robs id cs h
      exact ⟨g, h1, hbox h2, h3⟩
    toks := fun k' hk => by
      simp only [List.mem_filter, Bool.not_eq_true', beq_eq_false_iff_ne] at hk
      obtain ⟨x, hx⟩ := hW.toks k' hk.1
      exact ⟨x, by simp only [Ghost.setLab]; rw [if_neg hk.2]; exact hx⟩
    tau := fun k' g e z h => hW.tau k' g e z (hτ h).2
    tinj := fun k1 k2 g e z e' z' h1 h2 => hW.tinj k1 k2 g e z e' z' (hτ h1).2 (hτ h2).2
    binj := hW.binj
    blt := hW.blt
    lablt := fun b hb => by
      by_cases h : ∃ e z, G.τ k = some (some (b, e, z))
      · obtain ⟨e, z, h⟩ := h
        obtain ⟨_, _, ⟨cur, hc, _⟩, _⟩ := hW.tau k b e z h
        exact heap_lt hc
      · rw [setLab_off h] at hb; exact hW.lablt b hb
    old := hW.old
    olda := hW.olda
    oldl := fun b hlt hb => by
      have h0 := hW.oldl b hlt hb
      rw [setLab_off (by
        rintro ⟨e, z, h⟩
        rw [hW.tlab k b e z h] at h0
        exact hb h0.symm)]
      exact h0
    tlab := fun k' g e z h => by
      obtain ⟨h1, h2⟩ := hτ h
      rw [setLab_off (by
        rintro ⟨e', z', h'⟩
        exact h1 (hW.tinj k' k g e z e' z' h2 h'))]
      exact hW.tlab k' g e z h2
    blab := fun i g h => by
      rw [setLab_off (by
        rintro ⟨e', z', h'⟩
        exact (hW.tau k g e' z' h').2.2.2 i h)]
      exact hW.blab i g h
    oldu := fun b hlt hab hb => by
      rw [setLab_off (by
        rintro ⟨e', z', h'⟩
        rcases (hW.tau k b e' z' h').1 with q | q
        · omega
        · exact hab q)]
      exact hW.oldu b hlt hab hb
    labw := fun b hb hor => by
      by_cases h : ∃ e z, G.τ k = some (some (b, e, z))
      · obtain ⟨e, z, h⟩ := h
        obtain ⟨_, _, ⟨cur, hc, _⟩, _⟩ := hW.tau k b e z h
        exact ⟨cur, e, hc⟩
      · rw [setLab_off h] at hb; exact hW.labw b hb hor
    ids := hW.ids
    sz := hW.sz
    os := hW.os
    tape := hW.tape
    out := hW.out }

/-- A value that bears the token, labelled. -/
theorem lab_rel {B : Base} {bx ro : List (Nat × List D)} {tk : List Nat} {G : Ghost} {w : World} (hW : SimW B bx ro tk G w) {k : Nat} (hk : k ∈ tk) {l : List Nat} (hl : l ≠ []) {e : TypeId} {z : Nat} {xs : List D} {v : Value} (h : Rel G w (.sl (.own k e z) xs) v) : Rel (G.setLab k l) w (.sl (.lab l) xs) v := by
  obtain ⟨x, hx⟩ := hW.toks k hk
  have rG := (lab_simW hW k hl).2.2 h
  cases h with
  | @sl _ _ A n c b o s hn hc hm ht hA hu hkk hst hr =>
    cases rG with
    | @sl _ _ _ _ _ b' o' s' hn' hc' hm' ht' hA' hu' hkk' hst' hr' =>
    refine .sl (b := b') (o := o') (s := s') hn' hc' hm' ?_ hA' hu' hkk' hst' hr'
    simp only [TkOk, hx] at ht
    match x, hx with
    | none, _ => exact .inl (List.length_eq_zero_iff.1 (by rw [← hn]; exact ht.1))
    | some (g, e', z'), hx =>
      exact .inr ⟨g, 0, ht.2.1, setLab_at ⟨e', z', hx⟩, hl⟩

section
variable {S : Setup} {B : Base} {R : LS → Prop} {kk : List VItem} {L : LS}
theorem sw_lab (t : Nat) (l : List Nat) {k : Nat} {e : TypeId} {z : Nat} {xs : List D} (ht : look L.env t = some (.sl (.own k e z) xs)) (hk : k ∈ L.toks) (hl : l ≠ [])
    (h : SW S B R kk { L with env := setA L.env t (.sl (.lab l) xs), toks := L.toks.filter fun x => !(x == k) }) : SW S B R kk L := fun G a w hs => by
  obtain ⟨h1, h2, h3⟩ := lab_simW hs.W k hl
  obtain ⟨v, hv, hr⟩ := hs.env t _ ht
  have hs1 : Sim B { L with toks := L.toks.filter fun x => !(x == k) } (G.setLab k l) a w := ⟨hs.defers, hs.size, fun t' d' hd => by
    obtain ⟨u, q1, q2⟩ := hs.env t' d' hd
    exact ⟨u, q1, h3 q2⟩, h1, hs.fixed⟩
  exact h _ a w (env_set hs1 hv (lab_rel hs.W hk hl hr))
/-- .. in a cell of a box. -/
theorem sw_labBox (id j : Nat) (l : List Nat) {cs : List D} {k : Nat} {e : TypeId} {z : Nat} {xs : List D} (hb : look L.boxes id = some cs) (hj : cs[j]? = some (.sl (.own k e z) xs)) (hk : k ∈ L.toks) (hl : l ≠ [])
    (h : SW S B R kk { L with boxes := setA L.boxes id (cs.set j (.sl (.lab l) xs)), toks := L.toks.filter fun x => !(x == k) }) : SW S B R kk L := fun G a w hs => by
  obtain ⟨h1, h2, h3⟩ := lab_simW hs.W k hl
  refine h _ a w ⟨hs.defers, hs.size, fun t' d' hd => ?_, { h1 with boxes := fun i c hi => ?_ }, hs.fixed⟩
  · obtain ⟨u, q1, q2⟩ := hs.env t' d' hd
    exact ⟨u, q1, h3 q2⟩
  · simp only [look_setA] at hi
    by_cases e0 : id = i
    · subst e0
      simp only [if_true, Option.some.injEq] at hi
      subst hi
      obtain ⟨g, q1, ⟨vs, e', e1, e2, e3⟩, q3⟩ := hs.W.boxes id cs hb
      refine ⟨g, q1, ⟨vs, e', e1, by simpa using e2, fun j' d v hd hv => ?_⟩, q3⟩
      by_cases hjj : j = j'
      · subst hjj
        rw [List.getElem?_set_self (List.getElem?_eq_some_iff.1 hj).1] at hd
        obtain rfl := Option.some.inj hd
        exact lab_rel hs.W hk hl (e3 j _ v hj hv)
      · rw [List.getElem?_set_ne hjj] at hd
        exact h3 (e3 j' d v hd hv)
    · rw [if_neg e0] at hi
      exact h1.boxes i c hi
end
end Go.Lg
