/-
  Lg, part 38: what was made by 'make' and filled, labelled; labelled lists whose elements bear labels by their place.
-/
import Derived.Test.YtenjmepbaajkjaaLgMk3
import Derived.Test.YtenjmepbaajkjaaLgLab
namespace Go.Lg
open Go Go.RowKit

def Ghost.frLab (G : Ghost) (g n id : Nat) (l : List Nat) : Ghost := ⟨fun b => if b = g then n else G.lim b, fun b => if b = g then l else G.lab b, fun i => if i = id then none else G.β i, G.τ⟩

theorem freezeLab_sim {B : Base} {L : LS} {G : Ghost} {a : Act} {w : World} (h : Sim B L G a w) {t id n s : Nat} {cs xs : List D} {l : List Nat} (ht : look L.env t = some (.ms id n)) (hb : look L.boxes id = some cs) (hx : cs = flat xs) (hn : n = xs.length)
    (hu : ∀ x ∈ xs, x.cells.length = s) (hk : ∀ d ∈ cs, d.memOk = true) (hl : l ≠ []) (hfix : id ∉ L.fix) : ∃ G', Sim B { L.forget id with env := setA (L.forget id).env t (.sl (.lab l) xs) } G' a w := by
  have hW := h.W
  obtain ⟨g, hg, ⟨vs, e, e1, e2, e3⟩, hl0, hown⟩ := hW.boxes id cs hb
  obtain ⟨v, hv, hr⟩ := h.env t _ ht
  have hlab0 : G.lab g = [] := hW.blab id g hg
  let G' := G.frLab g cs.length id l
  have hmn : Mono G G' w w := ⟨fun b o u h1 h2 => ⟨by
    simp only [G', Ghost.frLab]
    split
    · rename_i hbg; subst hbg; omega
    · exact h1, h2⟩, fun b hb => by
    simp only [G', Ghost.frLab]
    split
    · rename_i e0; subst e0; exact absurd hlab0 hb
    · rfl⟩
  have hτg : ∀ {k g' e' z}, G.τ k = some (some (g', e', z)) → g' ≠ g := fun {k g' e' z} hk e0 => by
    subst e0
    exact (hW.tau k _ e' z hk).2.2.2 id hg
  have rG : ∀ {d u}, id ∉ d.ids → Rel G w d u → Rel G' w d u := fun {d u} hid hr => hr.mono hmn (fun i hi g' hg' => by
    have : i ≠ id := fun e0 => hid (e0 ▸ hi)
    simp only [G', Ghost.frLab]
    rw [if_neg this]; exact hg') (fun k _ => .inr ⟨rfl, fun g' e' z hk' => ⟨by
      simp only [G', Ghost.frLab]
      rw [if_neg (hτg hk')], rfl⟩⟩)
  have hbox : ∀ {g' cs'}, id ∉ D.idsL cs' → BoxAt G w g' cs' → BoxAt G' w g' cs' := fun {g' cs'} hid ⟨vs, e, e1, e2, e3⟩ => ⟨vs, e, e1, e2, fun j d v hd hv => rG (fun hi => hid (mem_idsL (List.mem_of_getElem? hd) hi)) (e3 j d v hd hv)⟩
  have hcell : ∀ j, w.cell? ⟨g, j, none⟩ = vs[j]? := fun j => by simp [World.cell?, e1]
  have hlim : G'.lim g = cs.length := by simp [G', Ghost.frLab]
  have hlim' : ∀ b, b ≠ g → G'.lim b = G.lim b := fun b hb => by simp [G', Ghost.frLab, hb]
  have hlab' : ∀ b, b ≠ g → G'.lab b = G.lab b := fun b hb => by simp [G', Ghost.frLab, hb]
  have hβ : ∀ {i g'}, G'.β i = some g' → i ≠ id ∧ G.β i = some g' := fun {i g'} hi => by
    simp only [G', Ghost.frLab] at hi
    split at hi
    · cases hi
    · rename_i h0; exact ⟨h0, hi⟩
  have hβ' : ∀ {i g'}, i ≠ id → G.β i = some g' → G'.β i = some g' := fun {i g'} h0 hi => by
    simp only [G', Ghost.frLab]
    rw [if_neg h0]; exact hi
  have memNo : ∀ {d : D}, d.memOk = true → id ∉ d.ids := fun hm => by rw [memOk_ids hm]; simp
  refine ⟨G', h.defers, h.size, fun t' d hd => ?_, ?_, h.fixed⟩
  · simp only [look_setA] at hd
    by_cases e0 : t = t'
    · subst e0
      simp only [if_true, Option.some.injEq] at hd
      subst hd
      refine ⟨v, hv, ?_⟩
      cases hr with
      | @ms _ _ c1 g1 hb' hc' hn' =>
        have e0 : g1 = g := Option.some.inj (hb'.symm.trans hg)
        rw [e0]
        refine .sl (b := g) (o := 0) (s := s) (by omega) hc' hn' (.inr ⟨g, 0, rfl, by simp [G', Ghost.frLab], hl⟩) (.inr rfl) hu (hx ▸ hk) (fun j d hj => ?_) (fun j d u hj hu' => ?_)
        · rw [← hx] at hj
          have hlt : j < cs.length := (List.getElem?_eq_some_iff.1 hj).1
          rw [Nat.zero_add, hlim, hcell]
          exact ⟨hlt, vs[j]'(by omega), by simp [show j < vs.size by omega]⟩
        · rw [← hx] at hj
          rw [Nat.zero_add, hcell] at hu'
          exact rG (memNo (hk d (List.mem_of_getElem? hj))) (e3 j d u hj hu')
    · rw [if_neg e0] at hd
      obtain ⟨h1, h2⟩ := look_keepA _ _ _ _ hd
      obtain ⟨u, h3, h4⟩ := h.env t' d h1
      exact ⟨u, h3, rG (noId_spec h2) h4⟩
  · exact {
      boxes := fun i cs' hl' => by
        simp only [LS.forget, look_eraseK] at hl'
        by_cases e0 : id = i
        · rw [if_pos e0] at hl'; cases hl'
        · rw [if_neg e0] at hl'
          obtain ⟨h1, h2⟩ := look_keepA _ _ _ _ hl'
          obtain ⟨g', k1, k2, k3, k4⟩ := hW.boxes i cs' h1
          refine ⟨g', hβ' (Ne.symm e0) k1, hbox (noIdL_spec h2) k2, ?_, k4⟩
          rw [hlim' g' (by rintro rfl; exact e0 (hW.binj _ _ _ hg k1))]
          exact k3
      robs := fun i cs' hl' => by
        simp only [LS.forget, look_eraseK] at hl'
        by_cases e0 : id = i
        · rw [if_pos e0] at hl'; cases hl'
        · rw [if_neg e0] at hl'
          obtain ⟨h1, h2⟩ := look_keepA _ _ _ _ hl'
          obtain ⟨g', k1, k2, k3⟩ := hW.robs i cs' h1
          exact ⟨g', hβ' (Ne.symm e0) k1, hbox (noIdL_spec h2) k2, k3⟩
      toks := hW.toks
      tau := fun k g' e' z hk' => by
        obtain ⟨h1, h2, ⟨cur, h3, h4⟩, h5⟩ := hW.tau k g' e' z hk'
        refine ⟨h1, h2, ⟨cur, h3, ?_⟩, fun i hi => h5 i (hβ hi).2⟩
        rw [hlim' g' (hτg hk')]
        exact h4
      tinj := hW.tinj
      binj := fun i j g' hi hj => hW.binj i j g' (hβ hi).2 (hβ hj).2
      blt := fun i g' hi => hW.blt i g' (hβ hi).2
      lablt := fun b hb => by
        by_cases e0 : b = g
        · subst e0; exact hW.blt id _ hg
        · rw [hlab' b e0] at hb; exact hW.lablt b hb
      old := fun b hb1 hb2 => by
        refine ⟨(hW.old b hb1 hb2).1, ?_⟩
        rw [hlim' b]
        · exact (hW.old b hb1 hb2).2
        · rintro rfl
          rcases hown with h | h
          · omega
          · exact hb2 h
      olda := fun b hb1 => by
        refine ⟨?_, (hW.olda b hb1).2⟩
        have := (hW.olda b hb1).1
        by_cases hbg : b = g
        · subst hbg; rw [hl0] at this; omega
        · rw [hlim' b hbg]; exact this
      oldl := fun b hb1 hb2 => by
        have h0 := hW.oldl b hb1 hb2
        have hbg : b ≠ g := fun e0 => by subst e0; rw [hlab0] at h0; exact hb2 h0.symm
        rw [hlab' b hbg]; exact h0
      tlab := fun k g' e' z hk' => by rw [hlab' g' (hτg hk')]; exact hW.tlab k g' e' z hk'
      blab := fun i g' hi => by
        obtain ⟨h0, hi⟩ := hβ hi
        have hne : g' ≠ g := fun e0 => h0 (hW.binj i id g (e0 ▸ hi) hg)
        rw [hlab' g' hne]; exact hW.blab i g' hi
      oldu := fun b hb1 hb2 hb3 => by
        have hbg : b ≠ g := fun e0 => by
          subst e0
          rcases hown with h | h
          · omega
          · exact hb2 h
        rw [hlab' b hbg]; exact hW.oldu b hb1 hb2 hb3
      labw := fun b hb hor => by
        by_cases e0 : b = g
        · subst e0; exact ⟨vs, e, e1⟩
        · rw [hlab' b e0] at hb; exact hW.labw b hb hor
      ids := fun p hp => hβ' (fun e0 => hfix (e0 ▸ h.fixed p hp)) (hW.ids p hp)
      sz := hW.sz
      os := hW.os
      tape := hW.tape
      out := hW.out }

section
variable {S : Setup} {B : Base} {R : LS → Prop} {k : List VItem} {L : LS}
/-- .. ahead of the region 'rid'. -/
theorem sw_freezeLabAt (rid t s : Nat) (l : List Nat) {id n : Nat} {cs : List D} (xs : List D) {ops : Array Oper} {dr : Bool} {c : Code} (ht : look L.env t = some (.ms id n)) (hb : look L.boxes id = some cs) (hx : cs = flat xs) (hn : n = xs.length)
    (hu : ∀ x ∈ xs, x.cells.length = s) (hk : ∀ d ∈ cs, d.memOk = true) (hl : l ≠ []) (hfix : id ∉ L.fix) (hh : SW S B R (.code (.seq (.region rid ops dr) c) :: k) { L.forget id with env := setA (L.forget id).env t (.sl (.lab l) xs) }) : SW S B R (.code (.seq (.region rid ops dr) c) :: k) L := fun G a w hs => by
  obtain ⟨G', h'⟩ := freezeLab_sim hs ht hb hx hn hu hk hl hfix
  exact hh G' a w h'
end

/-- A list whose elements' labels go by their place. -/
def mapR {α : Type} [Inhabited α] (g : Nat → α → D) (xs : List α) : List D := (List.range xs.length).map fun j => g j (xs.getD j default)
theorem mapR_length {α : Type} [Inhabited α] (g : Nat → α → D) (xs : List α) : (mapR g xs).length = xs.length := by simp [mapR]
theorem mapR_get {α : Type} [Inhabited α] {g : Nat → α → D} {xs : List α} {i : Nat} {d : D} (h : (mapR g xs)[i]? = some d) : ∃ x, xs[i]? = some x ∧ d = g i x := by
  unfold mapR at h
  rw [List.getElem?_map] at h
  by_cases hi : i < xs.length
  · rw [List.getElem?_range hi] at h
    refine ⟨xs[i], List.getElem?_eq_getElem hi, ?_⟩
    simpa [List.getD, List.getElem?_eq_getElem hi] using h.symm
  · rw [List.getElem?_eq_none (by simpa using hi)] at h
    cases h
theorem mapR_cells {α : Type} [Inhabited α] {g : Nat → α → D} {xs : List α} {s : Nat} (h : ∀ j x, (g j x).cells.length = s) : ∀ d ∈ mapR g xs, d.cells.length = s := fun d hd => by
  obtain ⟨i, hi⟩ := List.getElem?_of_mem hd
  obtain ⟨x, _, rfl⟩ := mapR_get hi
  exact h i x
theorem fillF_doneR {α : Type} [Inhabited α] (g : Nat → α → D) (z : List D) (xs : List α) : fillF (fun j => (g j (xs.getD j default)).cells) z xs.length xs.length = flat (mapR g xs) := by
  unfold fillF flat mapR
  rw [List.flatMap_def, List.map_map]
  congr 1
  refine List.map_congr_left fun j hj => ?_
  rw [if_pos (List.mem_range.1 hj)]
  rfl
theorem leL_append : ∀ {a b c d : List D}, leL a b → leL c d → leL (a ++ c) (b ++ d)
  | [], [], _, _, _, h => h
  | _ :: _, _ :: _, _, _, h1, h2 => ⟨h1.1, leL_append h1.2 h2⟩
  | [], _ :: _, _, _, h, _ => h.elim
  | _ :: _, [], _, _, h, _ => h.elim
theorem leL_flat : ∀ {xs ys : List D}, xs.length = ys.length → (∀ (i : Nat) x y, xs[i]? = some x → ys[i]? = some y → leL x.cells y.cells) → leL (flat xs) (flat ys)
  | [], [], _, _ => trivial
  | x :: xs, y :: ys, hl, h => by
    rw [flat_cons, flat_cons]
    exact leL_append (h 0 x y rfl rfl) (leL_flat (by simpa using hl) fun i a b ha hb => h (i + 1) a b (by simpa using ha) (by simpa using hb))
  | [], _ :: _, hl, _ => by simp at hl
  | _ :: _, [], hl, _ => by simp at hl
theorem le_mapR {α : Type} [Inhabited α] {g : Nat → α → D} {e : α → D} {tk : Tk} (xs : List α) (h : ∀ j x, leL (g j x).cells (e x).cells) : D.le (.sl tk (mapR g xs)) (.sl .any (xs.map e)) := by
  have hlen : (mapR g xs).length = (xs.map e).length := by rw [mapR_length, List.length_map]
  have hel : ∀ (i : Nat) a b, (mapR g xs)[i]? = some a → (xs.map e)[i]? = some b → leL a.cells b.cells := fun i a b ha hb => by
    obtain ⟨x, hx, rfl⟩ := mapR_get ha
    rw [List.getElem?_map, hx] at hb
    obtain rfl := Option.some.inj hb
    exact h i x
  have hfl := leL_flat hlen hel
  refine .deep ?_ (leL_len hfl) fun j c d hc hd => ?_
  · refine List.ext_getElem? fun i => ?_
    rw [List.getElem?_map, List.getElem?_map]
    cases ha : (mapR g xs)[i]? with
    | none =>
      have : xs.length ≤ i := by rw [← mapR_length g xs]; exact List.getElem?_eq_none_iff.1 ha
      rw [List.getElem?_eq_none (by simpa using this)]
    | some a =>
      have hi : i < (xs.map e).length := by rw [← hlen]; exact (List.getElem?_eq_some_iff.1 ha).1
      have hb := List.getElem?_eq_getElem hi
      rw [hb]
      simp only [Option.map_some]
      rw [leL_len (hel i a _ ha hb)]
  · obtain ⟨a, ha, hle⟩ := leL_get hfl j d hd
    rw [hc] at ha
    obtain rfl := Option.some.inj ha
    exact hle
theorem LT_mapR {α : Type} [Inhabited α] {fs : Fs} {p : List Nat} {g : Nat → α → D} {m : α → Nat} (xs : List α) (h : ∀ j x, LF fs (p ++ [j]) 0 (g j x).cells (m x)) : LT (.slc fs) p (.sl (.lab p) (mapR g xs)) (xs.map m).sum := by
  unfold LT
  refine ⟨_, _, xs.map m, rfl, rfl, .inr rfl, by rw [mapR_length, List.length_map], rfl, fun i x n hx hn => ?_⟩
  obtain ⟨y, hy, rfl⟩ := mapR_get hx
  rw [List.getElem?_map, hy] at hn
  obtain rfl := Option.some.inj hn
  exact h i y
theorem LT_ints (p : List Nat) (xs : List Int) : LT (.slc (.cell .nil)) p (.sl (.lab p) (xs.map (.int .i64))) xs.length := by
  unfold LT
  refine ⟨_, _, xs.map fun _ => 1, rfl, rfl, .inr rfl, by simp, ?_, fun i x n hx hn => ?_⟩
  · induction xs with
    | nil => rfl
    | cons x xs ih => simp [← ih]; omega
  · rw [List.getElem?_map] at hx hn
    cases hy : xs[i]? with
    | none => rw [hy] at hx; cases hx
    | some y =>
      rw [hy] at hx hn
      obtain rfl := Option.some.inj hx
      obtain rfl := Option.some.inj hn
      unfold LF
      exact ⟨y, 0, [], rfl, rfl, by unfold LF; exact ⟨rfl, rfl⟩⟩
/-- The first i elements of it. -/
def upR {α : Type} [Inhabited α] (g : Nat → α → D) (xs : List α) (i : Nat) : List D := (List.range i).map fun j => g j (xs.getD j default)
theorem upR_length {α : Type} [Inhabited α] (g : Nat → α → D) (xs : List α) (i : Nat) : (upR g xs i).length = i := by simp [upR]
theorem upR_zero {α : Type} [Inhabited α] (g : Nat → α → D) (xs : List α) : upR g xs 0 = [] := rfl
theorem upR_succ {α : Type} [Inhabited α] (g : Nat → α → D) (xs : List α) (i : Nat) : upR g xs (i + 1) = upR g xs i ++ [g i (xs.getD i default)] := by
  simp [upR, List.range_succ]
theorem upR_all {α : Type} [Inhabited α] (g : Nat → α → D) (xs : List α) : upR g xs xs.length = mapR g xs := rfl
theorem upR_mem {α : Type} [Inhabited α] {g : Nat → α → D} {xs : List α} {i : Nat} {P : D → Prop} (h : ∀ j x, P (g j x)) : ∀ d ∈ upR g xs i, P d := fun d hd => by
  obtain ⟨j, _, rfl⟩ := List.mem_map.1 hd
  exact h j _
theorem mapR_getDm {α : Type} [Inhabited α] {g : Nat → α → D} {xs : List α} {i : Nat} (h : Om (i < xs.length)) : (mapR g xs).getD i default = g i (xs.getD i default) := by
  have h : i < xs.length := h.out
  unfold mapR
  simp only [List.getD, List.getElem?_map, List.getElem?_range h, Option.map_some, Option.getD_some]
end Go.Lg
/-
  Lg, part 39: the marking regions, the state behind them reckoned.
-/
namespace Go.Lg
open Go Go.RowKit

def KeepL (B : Base) (i : Nat) : List D → Prop
  | [] => True
  | d :: r => Keep B i d ∧ KeepL B i r
def KeepE (B : Base) (i : Nat) : List (Nat × D) → Prop
  | [] => True
  | p :: r => Keep B i p.2 ∧ KeepE B i r
def KeepX (B : Base) (i : Nat) : List (Nat × List D) → Prop
  | [] => True
  | p :: r => KeepL B i p.2 ∧ KeepX B i r
theorem keepL_mem {B : Base} {i : Nat} : ∀ {l : List D}, KeepL B i l → ∀ d ∈ l, Keep B i d
  | _ :: _, h, d, hd => by
    rcases List.mem_cons.1 hd with rfl | hd
    · exact h.1
    · exact keepL_mem h.2 d hd
theorem keepE_mem {B : Base} {i : Nat} : ∀ {l : List (Nat × D)}, KeepE B i l → ∀ p ∈ l, Keep B i p.2
  | _ :: _, h, d, hd => by
    rcases List.mem_cons.1 hd with rfl | hd
    · exact h.1
    · exact keepE_mem h.2 d hd
theorem keepX_mem {B : Base} {i : Nat} : ∀ {l : List (Nat × List D)}, KeepX B i l → ∀ p ∈ l, ∀ d ∈ p.2, Keep B i d
  | _ :: _, h, p, hp => by
    rcases List.mem_cons.1 hp with rfl | hp
    · exact keepL_mem h.1
    · exact keepX_mem h.2 p hp
theorem look_mem {α : Type} : ∀ {l : List (Nat × α)}, (l.map (·.1)).Nodup → ∀ p ∈ l, look l p.1 = some p.2
  | (k, x) :: r, h, p, hp => by
    simp only [List.map_cons, List.nodup_cons] at h
    rcases List.mem_cons.1 hp with rfl | hp
    · simp [look]
    · have hne : k ≠ p.1 := fun e => h.1 (e ▸ List.mem_map.2 ⟨p, hp, rfl⟩)
      simp only [look, if_neg hne]
      exact look_mem h.2 p hp
theorem mem_eraseK {α : Type} {k : Nat} : ∀ {l : List (Nat × α)} {p : Nat × α}, p ∈ eraseK k l → p ∈ l ∧ p.1 ≠ k
  | [], _, h => by cases h
  | (k', x) :: r, p, h => by
    unfold eraseK at h
    split at h
    · obtain ⟨h1, h2⟩ := mem_eraseK h
      exact ⟨List.mem_cons_of_mem _ h1, h2⟩
    · rename_i hne
      rcases List.mem_cons.1 h with rfl | h
      · exact ⟨List.mem_cons_self, hne⟩
      · obtain ⟨h1, h2⟩ := mem_eraseK h
        exact ⟨List.mem_cons_of_mem _ h1, h2⟩
theorem mem_setA {α : Type} {k : Nat} {x : α} : ∀ {l : List (Nat × α)} {p : Nat × α}, p ∈ setA l k x → p = (k, x) ∨ p ∈ l
  | [], p, h => by simp [setA] at h; exact .inl h
  | (k', y) :: r, p, h => by
    unfold setA at h
    split at h
    · rcases List.mem_cons.1 h with h | h
      · exact .inl h
      · exact .inr (List.mem_cons_of_mem _ h)
    · rcases List.mem_cons.1 h with h | h
      · exact .inr (h ▸ List.mem_cons_self)
      · rcases mem_setA h with h | h
        · exact .inl h
        · exact .inr (List.mem_cons_of_mem _ h)
theorem no_key {α : Type} {l : List (Nat × α)} {t : Nat} (hnd : (l.map (·.1)).Nodup) (h : look l t = none) : ∀ p ∈ l, p.1 ≠ t := fun p hp e => by
  have := look_mem hnd p hp
  rw [e, h] at this
  cases this

section regions
variable {S : Setup} {B : Base} {R : LS → Prop} {kk : List VItem} {L : LS} {A M t1 t2 t3 id : Nat} {ty1 ty2 ty3 ty4 : TypeId} {p1 p2 p3 p4 : String} {a1 a2 a3 a4 : Array Edge} {tys : Array TypeId} {f : FuncId} {i n N : Nat} {k : Int}

theorem sw_markS1 {s : Sh} {d : D} (hc : B.cl N) (hi : N ≤ i) (mk : MKs S.P f s) (hA : L.get A = some d) (hT : LT s [i] d n) (hM : L.get M = some (.int .i64 k)) (h0 : 0 ≤ k) (hb : k + n ≤ 4611686018427387904)
    (hlt : (t1 < L.n ∧ t2 < L.n ∧ t3 < L.n ∧ M < L.n) ∧ t1 ≠ t2 ∧ t1 ≠ M) (hfr : look L.env t1 = none ∧ look L.env t2 = none ∧ look L.env t3 = none) (hnd : (L.env.map (·.1)).Nodup ∧ (L.boxes.map (·.1)).Nodup ∧ (L.ro.map (·.1)).Nodup)
    (ke : KeepE B i (eraseK A (eraseK M L.env))) (kb : KeepX B i L.boxes) (kr : KeepX B i L.ro) (h : SW S B R kk ({ L with env := eraseK A (eraseK M L.env), toks := [] }.put M (.int .i64 (k + n)))) :
    SW S B R (.code (.region id [⟨some t1, .move (.tmp A), ty1, p1, a1, none⟩, ⟨some t2, .move (.tmp M), ty2, p2, a2, none⟩, ⟨some t3, .call ⟨.value (.func f), #[.tmp t1, .tmp t2], tys⟩, ty3, p3, a3, none⟩, ⟨some M, .assign (.tmp t3), ty4, p4, a4, none⟩].toArray false) :: kk) L := by
  have hmem : ∀ q ∈ eraseK A (eraseK M L.env), q ∈ L.env ∧ q.1 ≠ M := fun q hq => by
    obtain ⟨h1, _⟩ := mem_eraseK hq
    exact mem_eraseK h1
  exact sw_markS (L' := { L with env := eraseK A (eraseK M L.env), toks := [] }) hc hi mk hA hT hM h0 hb hlt ⟨rfl, rfl, rfl⟩
    (fun q hq => by
      obtain ⟨h1, h2⟩ := hmem q hq
      exact ⟨no_key hnd.1 hfr.1 q h1, no_key hnd.1 hfr.2.1 q h1, no_key hnd.1 hfr.2.2 q h1, h2⟩)
    (fun q hq => .inl ⟨q.2, look_mem hnd.1 q (hmem q hq).1, rfl, keepE_mem ke q hq⟩)
    (fun q hq => ⟨look_mem hnd.2.1 q hq, keepX_mem kb q hq⟩) (fun q hq => ⟨look_mem hnd.2.2 q hq, keepX_mem kr q hq⟩) h
theorem sw_markS2 {s : Sh} {d : D} (hc : B.cl N) (hi : N ≤ i) (mk : MKs S.P f s) (hA : L.get A = some d) (hT : LT s [i] d n) (hM : L.get M = some (.int .i64 k)) (h0 : 0 ≤ k) (hb : k + n ≤ 4611686018427387904)
    (hlt : (t1 < L.n ∧ t2 < L.n ∧ t3 < L.n ∧ M < L.n) ∧ t1 ≠ t2 ∧ t1 ≠ M) (hfr : look L.env t1 = none ∧ look L.env t2 = none ∧ look L.env t3 = none) (hAM : A ≠ M ∧ A ≠ t1 ∧ A ≠ t2 ∧ A ≠ t3) (hnd : (L.env.map (·.1)).Nodup ∧ (L.boxes.map (·.1)).Nodup ∧ (L.ro.map (·.1)).Nodup)
    (ke : KeepE B i (eraseK A (eraseK M L.env))) (kb : KeepX B i L.boxes) (kr : KeepX B i L.ro) (h : SW S B R kk ({ L with env := setA (eraseK A (eraseK M L.env)) A (HD s k n), toks := [] }.put M (.int .i64 (k + n)))) :
    SW S B R (.code (.region id [⟨some t1, .move (.tmp A), ty1, p1, a1, none⟩, ⟨some t2, .move (.tmp M), ty2, p2, a2, none⟩, ⟨some t3, .call ⟨.value (.func f), #[.tmp t1, .tmp t2], tys⟩, ty3, p3, a3, none⟩, ⟨some M, .assign (.tmp t3), ty4, p4, a4, none⟩].toArray false) :: kk) L := by
  have hmem : ∀ q ∈ eraseK A (eraseK M L.env), q ∈ L.env ∧ q.1 ≠ M := fun q hq => by
    obtain ⟨h1, _⟩ := mem_eraseK hq
    exact mem_eraseK h1
  exact sw_markS (L' := { L with env := setA (eraseK A (eraseK M L.env)) A (HD s k n), toks := [] }) hc hi mk hA hT hM h0 hb hlt ⟨rfl, rfl, rfl⟩
    (fun q hq => by
      rcases mem_setA hq with rfl | hq
      · exact ⟨hAM.2.1, hAM.2.2.1, hAM.2.2.2, hAM.1⟩
      · obtain ⟨h1, h2⟩ := hmem q hq
        exact ⟨no_key hnd.1 hfr.1 q h1, no_key hnd.1 hfr.2.1 q h1, no_key hnd.1 hfr.2.2 q h1, h2⟩)
    (fun q hq => by
      rcases mem_setA hq with rfl | hq
      · exact .inr ⟨rfl, rfl⟩
      · exact .inl ⟨q.2, look_mem hnd.1 q (hmem q hq).1, rfl, keepE_mem ke q hq⟩)
    (fun q hq => ⟨look_mem hnd.2.1 q hq, keepX_mem kb q hq⟩) (fun q hq => ⟨look_mem hnd.2.2 q hq, keepX_mem kr q hq⟩) h
theorem sw_markA1 {fs : Fs} {cs cs' : List D} {T : TypeId} {j : TyI} {bid : Nat} (hc : B.cl N) (hi : N ≤ i) (mk : MKa S.P f fs) (hA : L.get A = some (.box bid 0)) (hB : look L.boxes bid = some cs) (hT : TA fs [i] 0 k cs cs' n) (hj : S.tab T = some j) (hag : j.agg = true) (hjs : j.size = cs.length)
    (hM : L.get M = some (.int .i64 k)) (h0 : 0 ≤ k) (hb : k + n ≤ 4611686018427387904)
    (hlt : (t1 < L.n ∧ t2 < L.n ∧ t3 < L.n ∧ M < L.n) ∧ t1 ≠ t2 ∧ t1 ≠ M) (hfr : look L.env t1 = none ∧ look L.env t2 = none ∧ look L.env t3 = none) (hnd : (L.env.map (·.1)).Nodup ∧ (L.boxes.map (·.1)).Nodup ∧ (L.ro.map (·.1)).Nodup)
    (ke : KeepE B i (eraseK M L.env)) (kb : KeepX B i (eraseK bid L.boxes)) (kr : KeepX B i L.ro) (h : SW S B R kk ({ L with env := eraseK M L.env, boxes := eraseK bid L.boxes, toks := [] }.put M (.int .i64 (k + n)))) :
    SW S B R (.code (.region id [⟨some t1, .load T (.tmp A), ty1, p1, a1, none⟩, ⟨some t2, .move (.tmp M), ty2, p2, a2, none⟩, ⟨some t3, .call ⟨.value (.func f), #[.tmp t1, .tmp t2], tys⟩, ty3, p3, a3, none⟩, ⟨some M, .assign (.tmp t3), ty4, p4, a4, none⟩].toArray false) :: kk) L :=
  sw_markA (L' := { L with env := eraseK M L.env, boxes := eraseK bid L.boxes, toks := [] }) hc hi mk hA hB hT hj hag hjs hM h0 hb hlt ⟨rfl, rfl, rfl⟩
    (fun q hq => by
      obtain ⟨h1, h2⟩ := mem_eraseK hq
      exact ⟨no_key hnd.1 hfr.1 q h1, no_key hnd.1 hfr.2.1 q h1, no_key hnd.1 hfr.2.2 q h1, h2⟩)
    (fun q hq => ⟨q.2, look_mem hnd.1 q (mem_eraseK hq).1, rfl, keepE_mem ke q hq⟩)
    (fun q hq => .inl ⟨look_mem hnd.2.1 q (mem_eraseK hq).1, keepX_mem kb q hq⟩) (fun q hq => ⟨look_mem hnd.2.2 q hq, keepX_mem kr q hq⟩) h
theorem sw_markA2 {fs : Fs} {cs cs' : List D} {T : TypeId} {j : TyI} {bid : Nat} (hc : B.cl N) (hi : N ≤ i) (mk : MKa S.P f fs) (hA : L.get A = some (.box bid 0)) (hB : look L.boxes bid = some cs) (hT : TA fs [i] 0 k cs cs' n) (hj : S.tab T = some j) (hag : j.agg = true) (hjs : j.size = cs.length)
    (hM : L.get M = some (.int .i64 k)) (h0 : 0 ≤ k) (hb : k + n ≤ 4611686018427387904)
    (hlt : (t1 < L.n ∧ t2 < L.n ∧ t3 < L.n ∧ M < L.n) ∧ t1 ≠ t2 ∧ t1 ≠ M) (hfr : look L.env t1 = none ∧ look L.env t2 = none ∧ look L.env t3 = none) (hnd : (L.env.map (·.1)).Nodup ∧ (L.boxes.map (·.1)).Nodup ∧ (L.ro.map (·.1)).Nodup)
    (ke : KeepE B i (eraseK M L.env)) (kb : KeepX B i (eraseK bid L.boxes)) (kr : KeepX B i L.ro) (h : SW S B R kk ({ L with env := eraseK M L.env, boxes := setA (eraseK bid L.boxes) bid cs', toks := [] }.put M (.int .i64 (k + n)))) :
    SW S B R (.code (.region id [⟨some t1, .load T (.tmp A), ty1, p1, a1, none⟩, ⟨some t2, .move (.tmp M), ty2, p2, a2, none⟩, ⟨some t3, .call ⟨.value (.func f), #[.tmp t1, .tmp t2], tys⟩, ty3, p3, a3, none⟩, ⟨some M, .assign (.tmp t3), ty4, p4, a4, none⟩].toArray false) :: kk) L :=
  sw_markA (L' := { L with env := eraseK M L.env, boxes := setA (eraseK bid L.boxes) bid cs', toks := [] }) hc hi mk hA hB hT hj hag hjs hM h0 hb hlt ⟨rfl, rfl, rfl⟩
    (fun q hq => by
      obtain ⟨h1, h2⟩ := mem_eraseK hq
      exact ⟨no_key hnd.1 hfr.1 q h1, no_key hnd.1 hfr.2.1 q h1, no_key hnd.1 hfr.2.2 q h1, h2⟩)
    (fun q hq => ⟨q.2, look_mem hnd.1 q (mem_eraseK hq).1, rfl, keepE_mem ke q hq⟩)
    (fun q hq => by
      rcases mem_setA hq with rfl | hq
      · exact .inr ⟨rfl, rfl⟩
      · exact .inl ⟨look_mem hnd.2.1 q (mem_eraseK hq).1, keepX_mem kb q hq⟩) (fun q hq => ⟨look_mem hnd.2.2 q hq, keepX_mem kr q hq⟩) h
end regions
/-- .. ahead of the region 'rid'. -/
theorem sw_rebaseAt {S : Setup} {B : Base} {k : List VItem} {L : LS} {t : Nat} {b : Bool} (rid : Nat) {ops : Array Oper} {dr : Bool} {c : Code} (hB : B.ids = [] ∧ ∀ b, ¬ B.ab b) (hk : noLoop k = true) (h : ∀ B1 N, B1.cl N → SW S B1 (Ret S [.tmp t] (.bool b) []) (.code (.seq (.region rid ops dr) c) :: k) (L.rebase B1)) : SW S B (Ret S [.tmp t] (.bool b) []) (.code (.seq (.region rid ops dr) c) :: k) L := sw_rebase hB hk h

section
variable (B : Base) (d : D) (s : Sh) (k : Int) (n : Nat)
theorem KD_ids : (KD B d).ids = [] := rfl
theorem KD_tks : (KD B d).tks = [] := rfl
theorem KD_cells : (KD B d).cells = [KD B d] := rfl
theorem KD_pu1 (p : Nat → Bool) : D.pu1 p (KD B d) = KD B d := rfl
theorem KD_pu (p : Nat → Bool) : D.pu p (KD B d) = KD B d := rfl
theorem KD_shT (o : Nat) : D.shT o (KD B d) = KD B d := rfl
theorem HD_ids : (HD s k n).ids = [] := rfl
theorem HD_tks : (HD s k n).tks = [] := rfl
theorem HD_cells : (HD s k n).cells = [HD s k n] := rfl
theorem HD_pu1 (p : Nat → Bool) : D.pu1 p (HD s k n) = HD s k n := rfl
theorem HD_pu (p : Nat → Bool) : D.pu p (HD s k n) = HD s k n := rfl
theorem HD_shT (o : Nat) : D.shT o (HD s k n) = HD s k n := rfl
end
attribute [go_sem] KD_ids KD_tks KD_cells KD_pu1 KD_pu KD_shT HD_ids HD_tks HD_cells HD_pu1 HD_pu HD_shT
theorem sum_le4 {α : Type} {m c : α → Nat} (h : ∀ x, m x ≤ 4 * (1 + c x)) (xs : List α) : (xs.map m).sum ≤ 4 * (xs.length + (xs.map c).sum) := by
  induction xs with
  | nil => simp
  | cons x xs ih =>
    have := h x
    simp only [List.map_cons, List.sum_cons, List.length_cons]
    omega
/-- As 'sw_tok', in a cell of a box. -/
theorem sw_tokBox {S : Setup} {B : Base} {R : LS → Prop} {kk : List VItem} {L : LS} (id j k : Nat) (e : TypeId) (z : Nat) {cs : List D} (hb : look (L.purge (fun x => x == k)).boxes id = some cs) (hj : cs[j]? = some (.sl .nil [])) (hc : (L.purge (fun x => x == k)).clean (fun x => x == k) = true)
    (h : SW S B R kk { L.purge (fun x => x == k) with boxes := setA (L.purge (fun x => x == k)).boxes id (cs.set j (.sl (.own k e z) [])), toks := k :: L.toks }) : SW S B R kk L := fun G a w hs => by
  have hp := purge_sim hs (fun x => x == k)
  have hstep : TokStep B G (G.setTok k (some none)) w w k := {
    mono := ⟨fun _ _ _ h1 h2 => ⟨h1, h2⟩, fun _ _ => rfl⟩
    beta := rfl, lab := rfl, sz := Nat.le_refl _, os := rfl, tape := rfl, out := rfl
    tau := fun k' hk' => .inr ⟨by simp [Ghost.setTok, hk'], fun _ _ _ _ => ⟨rfl, rfl⟩⟩
    block := fun _ _ => .inl ⟨rfl, rfl⟩
    new := fun g e' z' hg => by simp [Ghost.setTok] at hg
    live := by simp [Ghost.setTok] }
  have hsim := tokStep_sim hp hstep hc (tk := k :: L.toks) (fun k' hk' => by
    by_cases e : k' = k
    · exact .inl e
    · rcases List.mem_cons.1 hk' with h | h
      · exact absurd h e
      · exact .inr ⟨by simp [Ghost.setTok, e], h⟩)
  refine h _ a w ⟨hsim.defers, hsim.size, hsim.env, { hsim.W with boxes := fun i c hi => ?_ }, hsim.fixed⟩
  simp only [look_setA] at hi
  by_cases e0 : id = i
  · subst e0
    simp only [if_true, Option.some.injEq] at hi
    subst hi
    obtain ⟨g, q1, ⟨vs, e', e1, e2, e3⟩, q3⟩ := hsim.W.boxes id cs hb
    refine ⟨g, q1, ⟨vs, e', e1, by simpa using e2, fun j' d v hd hv => ?_⟩, q3⟩
    by_cases hjj : j = j'
    · subst hjj
      rw [List.getElem?_set_self (List.getElem?_eq_some_iff.1 hj).1] at hd
      obtain rfl := Option.some.inj hd
      have hr := e3 j _ v hj hv
      cases hr with
      | @sl _ _ A n c b o s hn hcc hm ht' hA hu hk hst hr =>
        exact .sl (b := 0) (o := 0) (s := 0) hn hcc hm (by simp only [TkOk, Ghost.setTok, if_true]; exact ⟨ht'.2.1, ht'.2.2⟩) (.inl rfl) (by simp) (by simp [flat]) (by simp [flat]) (by simp [flat])
    · rw [List.getElem?_set_ne hjj] at hd
      exact e3 j' d v hd hv
  · rw [if_neg e0] at hi
    exact hsim.W.boxes i c hi
/-- .. ahead of the region 'rid'. -/
theorem sw_labBoxAt {S : Setup} {B : Base} {R : LS → Prop} {kk : List VItem} {L : LS} (rid id j : Nat) (l : List Nat) {cs : List D} {k : Nat} {e : TypeId} {z : Nat} {xs : List D} {ops : Array Oper} {dr : Bool} {c : Code} (hb : look L.boxes id = some cs) (hj : cs[j]? = some (.sl (.own k e z) xs)) (hk : k ∈ L.toks) (hl : l ≠ [])
    (h : SW S B R (.code (.seq (.region rid ops dr) c) :: kk) { L with boxes := setA L.boxes id (cs.set j (.sl (.lab l) xs)), toks := L.toks.filter fun x => !(x == k) }) : SW S B R (.code (.seq (.region rid ops dr) c) :: kk) L := sw_labBox id j l hb hj hk hl h
end Go.Lg
