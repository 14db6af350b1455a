/-
  Lg, part 38: what was made by 'make' and filled, labelled; labelled lists whose elements bear labels by their place.
-/
import Derived.Test.YtceejlnnlkmeiaaLgMk5
namespace Go.Lg
open Go Go.RowKit

def Ghost.frLab (G : Ghost) (g n id : Nat) (l : List Nat) : Ghost := ⟨fun b => if b = g then n else G.lim b, fun b => if b = g then l else G.lab b, fun i => if i = id then none else G.β i, G.τ⟩

theorem freezeLab_sim {B : Base} {L : LS} {G : Ghost} {a : Act} {w : World} (h : Sim B L G a w) {t id n s : Nat} {cs xs : List D} {l : List Nat} (ht : look L.env t = some (.ms id n)) (hb : look L.boxes id = some cs) (hx : cs = flat xs) (hn : n = xs.length)
    (hu : ∀ x ∈ xs, x.cells.length = s) (hk : ∀ d ∈ cs, d.memOk = true) (hl : l ≠ []) (hfix : id ∉ L.fix) : ∃ G', Sim B { L.forget id with env := setA (L.forget id).env t (.sl (.lab l) xs) } G' a w := by
  have hW := h.W
  obtain ⟨g, hg, ⟨vs, e, e1, e2, e3⟩, hl0, hown⟩ := hW.boxes id cs hb
  obtain ⟨v, hv, hr⟩ := h.env t _ ht
  have hlab0 : G.lab g = [] := hW.blab id g hg
  let G' := G.frLab g cs.length id l
  have hmn : Mono G G' w w := ⟨fun b o u h1 h2 => ⟨by
    simp only [G', Ghost.frLab]
    split
    · rename_i hbg; subst hbg; omega
    · exact h1, h2⟩, fun b hb => by
    simp only [G', Ghost.frLab]
    split
    · rename_i e0; subst e0; exact absurd hlab0 hb
    · rfl⟩
  have hτg : ∀ {k g' e' z}, G.τ k = some (some (g', e', z)) → g' ≠ g := fun {k g' e' z} hk e0 => by
    subst e0
    exact (hW.tau k _ e' z hk).2.2.2 id hg
  have rG : ∀ {d u}, id ∉ d.ids → Rel G w d u → Rel G' w d u := fun {d u} hid hr => hr.mono hmn (fun i hi g' hg' => by
    have : i ≠ id := fun e0 => hid (e0 ▸ hi)
    simp only [G', Ghost.frLab]
    rw [if_neg this]; exact hg') (fun k _ => .inr ⟨rfl, fun g' e' z hk' => ⟨by
      simp only [G', Ghost.frLab]
      rw [if_neg (hτg hk')], rfl⟩⟩)
  have hbox : ∀ {g' cs'}, id ∉ D.idsL cs' → BoxAt G w g' cs' → BoxAt G' w g' cs' := fun {g' cs'} hid ⟨vs, e, e1, e2, e3⟩ => ⟨vs, e, e1, e2, fun j d v hd hv => rG (fun hi => hid (mem_idsL (List.mem_of_getElem? hd) hi)) (e3 j d v hd hv)⟩
  have hcell : ∀ j, w.cell? ⟨g, j, none⟩ = vs[j]? := fun j => by simp [World.cell?, e1]
  have hlim : G'.lim g = cs.length := by simp [G', Ghost.frLab]
  have hlim' : ∀ b, b ≠ g → G'.lim b = G.lim b := fun b hb => by simp [G', Ghost.frLab, hb]
  have hlab' : ∀ b, b ≠ g → G'.lab b = G.lab b := fun b hb => by simp [G', Ghost.frLab, hb]
  have hβ : ∀ {i g'}, G'.β i = some g' → i ≠ id ∧ G.β i = some g' := fun {i g'} hi => by
    simp only [G', Ghost.frLab] at hi
    split at hi
    · cases hi
    · rename_i h0; exact ⟨h0, hi⟩
  have hβ' : ∀ {i g'}, i ≠ id → G.β i = some g' → G'.β i = some g' := fun {i g'} h0 hi => by
    simp only [G', Ghost.frLab]
    rw [if_neg h0]; exact hi
  have memNo : ∀ {d : D}, d.memOk = true → id ∉ d.ids := fun hm => by rw [memOk_ids hm]; simp
  refine ⟨G', h.defers, h.size, fun t' d hd => ?_, ?_, h.fixed⟩
  · simp only [look_setA] at hd
    by_cases e0 : t = t'
    · subst e0
      simp only [if_true, Option.some.injEq] at hd
      subst hd
      refine ⟨v, hv, ?_⟩
      cases hr with
      | @ms _ _ g1 hb' hn' =>
        have e0 : g1 = g := Option.some.inj (hb'.symm.trans hg)
        rw [e0]
        refine .sl (b := g) (o := 0) (s := s) (by omega) (Nat.le_refl _) hn' (.inr ⟨g, 0, rfl, by simp [G', Ghost.frLab], hl⟩) (.inr rfl) hu (hx ▸ hk) (fun j d hj => ?_) (fun j d u hj hu' => ?_)
        · rw [← hx] at hj
          have hlt : j < cs.length := (List.getElem?_eq_some_iff.1 hj).1
          rw [Nat.zero_add, hlim, hcell]
          exact ⟨hlt, vs[j], by simp [e2, hlt]⟩
        · rw [← hx] at hj
          rw [Nat.zero_add, hcell] at hu'
          exact rG (memNo (hk d (List.mem_of_getElem? hj))) (e3 j d u hj hu')
    · rw [if_neg e0] at hd
      obtain ⟨h1, h2⟩ := look_keepA _ _ _ _ hd
      obtain ⟨u, h3, h4⟩ := h.env t' d h1
      exact ⟨u, h3, rG (noId_spec h2) h4⟩
  · exact {
      boxes := fun i cs' hl' => by
        simp only [LS.forget, look_eraseK] at hl'
        by_cases e0 : id = i
        · rw [if_pos e0] at hl'; cases hl'
        · rw [if_neg e0] at hl'
          obtain ⟨h1, h2⟩ := look_keepA _ _ _ _ hl'
          obtain ⟨g', k1, k2, k3, k4⟩ := hW.boxes i cs' h1
          refine ⟨g', hβ' (Ne.symm e0) k1, hbox (noIdL_spec h2) k2, ?_, k4⟩
          rw [hlim' g' (by rintro rfl; exact e0 (hW.binj _ _ _ hg k1))]
          exact k3
      robs := fun i cs' hl' => by
        simp only [LS.forget, look_eraseK] at hl'
        by_cases e0 : id = i
        · rw [if_pos e0] at hl'; cases hl'
        · rw [if_neg e0] at hl'
          obtain ⟨h1, h2⟩ := look_keepA _ _ _ _ hl'
          obtain ⟨g', k1, k2, k3⟩ := hW.robs i cs' h1
          exact ⟨g', hβ' (Ne.symm e0) k1, hbox (noIdL_spec h2) k2, k3⟩
      toks := hW.toks
      tau := fun k g' e' z hk' => by
        obtain ⟨h1, h2, ⟨cur, h3, h4⟩, h5⟩ := hW.tau k g' e' z hk'
        refine ⟨h1, h2, ⟨cur, h3, ?_⟩, fun i hi => h5 i (hβ hi).2⟩
        rw [hlim' g' (hτg hk')]
        exact h4
      tinj := hW.tinj
      binj := fun i j g' hi hj => hW.binj i j g' (hβ hi).2 (hβ hj).2
      blt := fun i g' hi => hW.blt i g' (hβ hi).2
      lablt := fun b hb => by
        by_cases e0 : b = g
        · subst e0; exact hW.blt id _ hg
        · rw [hlab' b e0] at hb; exact hW.lablt b hb
      old := fun b hb1 hb2 => by
        refine ⟨(hW.old b hb1 hb2).1, ?_⟩
        rw [hlim' b]
        · exact (hW.old b hb1 hb2).2
        · rintro rfl
          rcases hown with h | h
          · omega
          · exact hb2 h
      olda := fun b hb1 => by
        refine ⟨?_, (hW.olda b hb1).2⟩
        have := (hW.olda b hb1).1
        by_cases hbg : b = g
        · subst hbg; rw [hl0] at this; omega
        · rw [hlim' b hbg]; exact this
      oldl := fun b hb1 hb2 => by
        have h0 := hW.oldl b hb1 hb2
        have hbg : b ≠ g := fun e0 => by subst e0; rw [hlab0] at h0; exact hb2 h0.symm
        rw [hlab' b hbg]; exact h0
      tlab := fun k g' e' z hk' => by rw [hlab' g' (hτg hk')]; exact hW.tlab k g' e' z hk'
      blab := fun i g' hi => by
        obtain ⟨h0, hi⟩ := hβ hi
        have hne : g' ≠ g := fun e0 => h0 (hW.binj i id g (e0 ▸ hi) hg)
        rw [hlab' g' hne]; exact hW.blab i g' hi
      oldu := fun b hb1 hb2 hb3 => by
        have hbg : b ≠ g := fun e0 => by
          subst e0
          rcases hown with h | h
          · omega
          · exact hb2 h
        rw [hlab' b hbg]; exact hW.oldu b hb1 hb2 hb3
      labw := fun b hb hor => by
        by_cases e0 : b = g
        · subst e0; exact ⟨vs, e, e1⟩
        · rw [hlab' b e0] at hb; exact hW.labw b hb hor
      ids := fun p hp => hβ' (fun e0 => hfix (e0 ▸ h.fixed p hp)) (hW.ids p hp)
      sz := hW.sz
      os := hW.os
      tape := hW.tape
      out := hW.out }

section
variable {S : Setup} {B : Base} {R : LS → Prop} {k : List VItem} {L : LS}
/-- .. ahead of the region 'rid'. -/
theorem sw_freezeLabAt (rid t s : Nat) (l : List Nat) {id n : Nat} {cs : List D} (xs : List D) {ops : Array Oper} {dr : Bool} {c : Code} (ht : look L.env t = some (.ms id n)) (hb : look L.boxes id = some cs) (hx : cs = flat xs) (hn : n = xs.length)
    (hu : ∀ x ∈ xs, x.cells.length = s) (hk : ∀ d ∈ cs, d.memOk = true) (hl : l ≠ []) (hfix : id ∉ L.fix) (hh : SW S B R (.code (.seq (.region rid ops dr) c) :: k) { L.forget id with env := setA (L.forget id).env t (.sl (.lab l) xs) }) : SW S B R (.code (.seq (.region rid ops dr) c) :: k) L := fun G a w hs => by
  obtain ⟨G', h'⟩ := freezeLab_sim hs ht hb hx hn hu hk hl hfix
  exact hh G' a w h'
end

/-- A list whose elements' labels go by their place. -/
def mapR {α : Type} [Inhabited α] (g : Nat → α → D) (xs : List α) : List D := (List.range xs.length).map fun j => g j (xs.getD j default)
theorem mapR_length {α : Type} [Inhabited α] (g : Nat → α → D) (xs : List α) : (mapR g xs).length = xs.length := by simp [mapR]
theorem mapR_get {α : Type} [Inhabited α] {g : Nat → α → D} {xs : List α} {i : Nat} {d : D} (h : (mapR g xs)[i]? = some d) : ∃ x, xs[i]? = some x ∧ d = g i x := by
  unfold mapR at h
  rw [List.getElem?_map] at h
  by_cases hi : i < xs.length
  · rw [List.getElem?_range hi] at h
    refine ⟨xs[i], List.getElem?_eq_getElem hi, ?_⟩
    simpa [List.getD, List.getElem?_eq_getElem hi] using h.symm
  · rw [List.getElem?_eq_none (by simpa using hi)] at h
    cases h
theorem mapR_cells {α : Type} [Inhabited α] {g : Nat → α → D} {xs : List α} {s : Nat} (h : ∀ j x, (g j x).cells.length = s) : ∀ d ∈ mapR g xs, d.cells.length = s := fun d hd => by
  obtain ⟨i, hi⟩ := List.getElem?_of_mem hd
  obtain ⟨x, _, rfl⟩ := mapR_get hi
  exact h i x
theorem fillF_doneR {α : Type} [Inhabited α] (g : Nat → α → D) (z : List D) (xs : List α) : fillF (fun j => (g j (xs.getD j default)).cells) z xs.length xs.length = flat (mapR g xs) := by
  unfold fillF flat mapR
  rw [List.flatMap_def, List.map_map]
  congr 1
  refine List.map_congr_left fun j hj => ?_
  rw [if_pos (List.mem_range.1 hj)]
  rfl
theorem leL_append : ∀ {a b c d : List D}, leL a b → leL c d → leL (a ++ c) (b ++ d)
  | [], [], _, _, _, h => h
  | _ :: _, _ :: _, _, _, h1, h2 => ⟨h1.1, leL_append h1.2 h2⟩
  | [], _ :: _, _, _, h, _ => h.elim
  | _ :: _, [], _, _, h, _ => h.elim
theorem leL_flat : ∀ {xs ys : List D}, xs.length = ys.length → (∀ (i : Nat) x y, xs[i]? = some x → ys[i]? = some y → leL x.cells y.cells) → leL (flat xs) (flat ys)
  | [], [], _, _ => trivial
  | x :: xs, y :: ys, hl, h => by
    rw [flat_cons, flat_cons]
    exact leL_append (h 0 x y rfl rfl) (leL_flat (by simpa using hl) fun i a b ha hb => h (i + 1) a b (by simpa using ha) (by simpa using hb))
  | [], _ :: _, hl, _ => by simp at hl
  | _ :: _, [], hl, _ => by simp at hl
theorem le_mapR {α : Type} [Inhabited α] {g : Nat → α → D} {e : α → D} {tk : Tk} (xs : List α) (h : ∀ j x, leL (g j x).cells (e x).cells) : D.le (.sl tk (mapR g xs)) (.sl .any (xs.map e)) := by
  have hlen : (mapR g xs).length = (xs.map e).length := by rw [mapR_length, List.length_map]
  have hel : ∀ (i : Nat) a b, (mapR g xs)[i]? = some a → (xs.map e)[i]? = some b → leL a.cells b.cells := fun i a b ha hb => by
    obtain ⟨x, hx, rfl⟩ := mapR_get ha
    rw [List.getElem?_map, hx] at hb
    obtain rfl := Option.some.inj hb
    exact h i x
  have hfl := leL_flat hlen hel
  refine .deep ?_ (leL_len hfl) fun j c d hc hd => ?_
  · refine List.ext_getElem? fun i => ?_
    rw [List.getElem?_map, List.getElem?_map]
    cases ha : (mapR g xs)[i]? with
    | none =>
      have : xs.length ≤ i := by rw [← mapR_length g xs]; exact List.getElem?_eq_none_iff.1 ha
      rw [List.getElem?_eq_none (by simpa using this)]
    | some a =>
      have hi : i < (xs.map e).length := by rw [← hlen]; exact (List.getElem?_eq_some_iff.1 ha).1
      have hb := List.getElem?_eq_getElem hi
      rw [hb]
      simp only [Option.map_some]
      rw [leL_len (hel i a _ ha hb)]
  · obtain ⟨a, ha, hle⟩ := leL_get hfl j d hd
    rw [hc] at ha
    obtain rfl := Option.some.inj ha
    exact hle
theorem LT_mapR {α : Type} [Inhabited α] {fs : Fs} {p : List Nat} {g : Nat → α → D} {m : α → Nat} (xs : List α) (h : ∀ j x, LF fs (p ++ [j]) 0 (g j x).cells (m x)) : LT (.slc fs) p (.sl (.lab p) (mapR g xs)) (xs.map m).sum := by
  unfold LT
  refine ⟨_, _, xs.map m, rfl, rfl, .inr rfl, by rw [mapR_length, List.length_map], rfl, fun i x n hx hn => ?_⟩
  obtain ⟨y, hy, rfl⟩ := mapR_get hx
  rw [List.getElem?_map, hy] at hn
  obtain rfl := Option.some.inj hn
  exact h i y
theorem LT_ints (p : List Nat) (xs : List Int) : LT (.slc (.cell .nil)) p (.sl (.lab p) (xs.map (.int .i64))) xs.length := by
  unfold LT
  refine ⟨_, _, xs.map fun _ => 1, rfl, rfl, .inr rfl, by simp, ?_, fun i x n hx hn => ?_⟩
  · induction xs with
    | nil => rfl
    | cons x xs ih => simp [← ih]; omega
  · rw [List.getElem?_map] at hx hn
    cases hy : xs[i]? with
    | none => rw [hy] at hx; cases hx
    | some y =>
      rw [hy] at hx hn
      obtain rfl := Option.some.inj hx
      obtain rfl := Option.some.inj hn
      unfold LF
      exact ⟨y, 0, [], rfl, rfl, by unfold LF; exact ⟨rfl, rfl⟩⟩
/-- The first i elements of it. -/
def upR {α : Type} [Inhabited α] (g : Nat → α → D) (xs : List α) (i : Nat) : List D := (List.range i).map fun j => g j (xs.getD j default)
theorem upR_length {α : Type} [Inhabited α] (g : Nat → α → D) (xs : List α) (i : Nat) : (upR g xs i).length = i := by simp [upR]
theorem upR_zero {α : Type} [Inhabited α] (g : Nat → α → D) (xs : List α) : upR g xs 0 = [] := rfl
theorem upR_succ {α : Type} [Inhabited α] (g : Nat → α → D) (xs : List α) (i : Nat) : upR g xs (i + 1) = upR g xs i ++ [g i (xs.getD i default)] := by
  simp [upR, List.range_succ]
theorem upR_all {α : Type} [Inhabited α] (g : Nat → α → D) (xs : List α) : upR g xs xs.length = mapR g xs := rfl
theorem upR_mem {α : Type} [Inhabited α] {g : Nat → α → D} {xs : List α} {i : Nat} {P : D → Prop} (h : ∀ j x, P (g j x)) : ∀ d ∈ upR g xs i, P d := fun d hd => by
  obtain ⟨j, _, rfl⟩ := List.mem_map.1 hd
  exact h j _
theorem mapR_getDm {α : Type} [Inhabited α] {g : Nat → α → D} {xs : List α} {i : Nat} (h : Om (i < xs.length)) : (mapR g xs).getD i default = g i (xs.getD i default) := by
  have h : i < xs.length := h.out
  unfold mapR
  simp only [List.getD, List.getElem?_map, List.getElem?_range h, Option.map_some, Option.getD_some]
end Go.Lg
