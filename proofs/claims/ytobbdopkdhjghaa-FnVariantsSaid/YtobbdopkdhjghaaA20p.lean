/-
  Variants of equations: matching both ways is the same as having one numbering of the variables.
-/
import Derived.Test.YtobbdopkdhjghaaA04p
namespace Go.Proofs.Ytobbdopkdhjghaa
open Go Go.Lg
set_option linter.unusedSimpArgs false
set_option linter.unusedVariables false
def appF (σ : Nat → List Int) (p : List Int) : List Int := p.flatMap fun n => if 0 ≤ n then [n] else σ (vx n)
def gF (g : Bnd) : Nat → List Int := fun v => g.getD v default
theorem appF_cons (σ : Nat → List Int) (n : Int) (p : List Int) : appF σ (n :: p) = (if 0 ≤ n then [n] else σ (vx n)) ++ appF σ p := by simp [appF]
theorem appF_congr {σ τ : Nat → List Int} : ∀ {p : List Int}, (∀ n ∈ p, n < 0 → σ (vx n) = τ (vx n)) → appF σ p = appF τ p
  | [], _ => rfl
  | n :: p, h => by
    rw [appF_cons, appF_cons, appF_congr (p := p) fun m hm => h m (List.mem_cons_of_mem _ hm)]
    by_cases hn : 0 ≤ n
    · rw [if_pos hn, if_pos hn]
    · rw [if_neg hn, if_neg hn, h n List.mem_cons_self (by omega)]
theorem appF_fl {rs : List Int} {σ : Nat → List Int} {k : Nat} {p : List Int} (h : Fl rs k p) : (∀ n ∈ p, n < 0 → Fl rs 1 (σ (vx n))) → Fl rs k (appF σ p) := by
  induction h with
  | nil => exact fun _ => .nil
  | @cons n k l h0 hr ih =>
    intro hσ
    have := ih fun m hm => hσ m (List.mem_cons_of_mem _ hm)
    rw [appF_cons]
    by_cases hn : 0 ≤ n
    · rw [if_pos hn]; exact .cons h0 this
    · rw [if_neg hn]
      have h1 := hσ n List.mem_cons_self (by omega)
      have e : arS rs n = 0 := by
        unfold arS at h0 ⊢
        split
        · rfl
        · rename_i h1
          rw [if_neg h1, if_neg (by omega)] at h0
          omega
      rw [e] at this
      rw [Nat.add_comm k 1]
      exact h1.app this
theorem set_getD (g : Bnd) (v w : Nat) (u : List Int) : (g.set v u).getD w default = if v = w ∧ v < g.length then u else g.getD w default := by
  by_cases e : v = w
  · subst e
    by_cases h : v < g.length
    · simp [List.getD, h]
    · rw [if_neg (by omega)]
      simp [List.getD, List.getElem?_eq_none (show (g.set v u).length ≤ v by simp; omega), List.getElem?_eq_none (show g.length ≤ v by omega)]
  · rw [if_neg (by omega)]
    simp [List.getD, List.getElem?_set_ne e]
theorem drop_sub {rs t : List Int} (ht : TermOkP rs t) {a : Nat} (ha : a < t.length) : Fl rs 1 (subS rs t a) ∧ t.drop a = subS rs t a ++ t.drop (a + (subS rs t a).length) ∧ a + (subS rs t a).length ≤ t.length := by
  obtain ⟨p, u, r, rfl, rfl, hu⟩ := ht.at ha
  rw [subS_app hu]
  refine ⟨hu, ?_, by simp only [List.length_append]; omega⟩
  rw [List.drop_left, ← List.append_assoc p u r, List.drop_left' (by simp)]
theorem lin_sound {rs t : List Int} (ht : TermOkP rs t) : ∀ (p : List Int) (a : Nat) (g g' : Bnd), (∀ n ∈ p, -24 ≤ n) → g.length = 24 → a ≤ t.length → (∀ v, g.getD v default ≠ [] → Fl rs 1 (g.getD v default)) → linM rs t p a g = (g', true) →
    ∃ b, b ≤ t.length ∧ t.drop a = appF (gF g') p ++ t.drop b ∧ (∀ v, g.getD v default ≠ [] → g'.getD v default = g.getD v default) ∧ (∀ n ∈ p, n < 0 → g'.getD (vx n) default ≠ []) ∧ (∀ v, g'.getD v default ≠ [] → Fl rs 1 (g'.getD v default)) ∧ g'.length = 24
  | [], a, g, g', _, hg, ha, hf, h => by
    simp only [linM, Prod.mk.injEq, and_true] at h
    subst h
    exact ⟨a, ha, by simp [appF], fun _ _ => rfl, by simp, hf, hg⟩
  | n :: p, a, g, g', hp, hg, ha, hf, h => by
    have hp' : ∀ m ∈ p, -24 ≤ m := fun m hm => hp m (List.mem_cons_of_mem _ hm)
    have hn24 := hp n List.mem_cons_self
    simp only [linM] at h
    split at h
    · simp at h
    · rename_i hlt
      have hlt : a < t.length := by omega
      obtain ⟨s1, s2, s3⟩ := drop_sub ht hlt
      split at h
      · rename_i hn
        split at h
        · rename_i he
          obtain ⟨b, b1, b2, b3, b4, b5, b6⟩ := lin_sound ht p (a + 1) g g' hp' hg (by omega) hf h
          refine ⟨b, b1, ?_, b3, fun m hm hm0 => ?_, b5, b6⟩
          · rw [appF_cons, if_pos hn, List.drop_eq_getElem_cons hlt, b2]
            have : t[a] = n := by rw [← he]; simp [List.getD, hlt]
            rw [this]; rfl
          · rcases List.mem_cons.1 hm with rfl | hm
            · omega
            · exact b4 m hm hm0
        · simp at h
      · rename_i hn
        have hv : vx n < 24 := by unfold vx; omega
        split at h
        · rename_i he
          have hset : ∀ w, (g.set (vx n) (subS rs t a)).getD w default = if vx n = w then subS rs t a else g.getD w default := fun w => by
            rw [set_getD]
            by_cases e : vx n = w
            · rw [if_pos ⟨e, by omega⟩, if_pos e]
            · rw [if_neg (by omega), if_neg e]
          obtain ⟨b, b1, b2, b3, b4, b5, b6⟩ := lin_sound ht p (a + (subS rs t a).length) (g.set (vx n) (subS rs t a)) g' hp' (by simp [hg]) s3 (fun w hw => by
            rw [hset] at hw ⊢
            split
            · exact s1
            · rename_i e; rw [if_neg e] at hw; exact hf w hw) h
          have hne : subS rs t a ≠ [] := fun e => by have := s1.len; rw [e] at this; simp at this
          have hgv : g'.getD (vx n) default = subS rs t a := by
            have := b3 (vx n)
            rw [hset, if_pos rfl] at this
            exact this hne
          refine ⟨b, b1, ?_, fun w hw => ?_, fun m hm hm0 => ?_, b5, b6⟩
          · rw [appF_cons, if_neg hn, s2, b2]
            simp only [gF, hgv, List.append_assoc]
          · have := b3 w
            rw [hset] at this
            by_cases e : vx n = w
            · subst e; exact absurd he hw
            · rw [if_neg e] at this; exact this hw
          · rcases List.mem_cons.1 hm with rfl | hm
            · rw [hgv]; exact hne
            · exact b4 m hm hm0
        · rename_i he
          split at h
          · rename_i he2
            obtain ⟨b, b1, b2, b3, b4, b5, b6⟩ := lin_sound ht p (a + (subS rs t a).length) g g' hp' hg s3 hf h
            refine ⟨b, b1, ?_, b3, fun m hm hm0 => ?_, b5, b6⟩
            · rw [appF_cons, if_neg hn, s2, b2]
              simp only [gF, b3 (vx n) he, he2, List.append_assoc]
            · rcases List.mem_cons.1 hm with rfl | hm
              · rw [b3 _ he]; exact he
              · exact b4 m hm hm0
          · simp at h
theorem lin_complete {rs t : List Int} (σ : Nat → List Int) : ∀ (p q r : List Int) (g : Bnd), t = q ++ (appF σ p ++ r) → (∀ n ∈ p, n < 0 → Fl rs 1 (σ (vx n)) ∧ vx n < g.length) → (∀ v, g.getD v default = [] ∨ g.getD v default = σ v) →
    ∃ g', linM rs t p q.length g = (g', true) ∧ (∀ v, g'.getD v default = [] ∨ g'.getD v default = σ v) ∧ g'.length = g.length
  | [], q, r, g, _, _, hg => ⟨g, rfl, hg, rfl⟩
  | n :: p, q, r, g, ht, hp, hg => by
    have hp' : ∀ m ∈ p, m < 0 → Fl rs 1 (σ (vx m)) ∧ vx m < g.length := fun m hm => hp m (List.mem_cons_of_mem _ hm)
    rw [appF_cons] at ht
    simp only [linM]
    by_cases hn : 0 ≤ n
    · rw [if_pos hn] at ht
      have e1 : t = (q ++ [n]) ++ (appF σ p ++ r) := by rw [ht]; simp
      have e2 : t.getD q.length default = n := by rw [ht]; simp [List.getD]
      have e3 : ¬ t.length ≤ q.length := by rw [ht]; simp only [List.length_append, List.length_cons]; omega
      rw [if_neg e3, if_pos hn, if_pos e2]
      have := lin_complete σ p (q ++ [n]) r g e1 hp' hg
      simpa using this
    · rw [if_neg hn] at ht
      obtain ⟨hσ, hv⟩ := hp n List.mem_cons_self (by omega)
      have e1 : t = q ++ (σ (vx n) ++ (appF σ p ++ r)) := by rw [ht]; simp
      have e2 : subS rs t q.length = σ (vx n) := by rw [e1]; exact subS_app hσ
      have hl := hσ.len
      have e3 : ¬ t.length ≤ q.length := by rw [e1]; simp only [List.length_append]; omega
      have e4 : t = (q ++ σ (vx n)) ++ (appF σ p ++ r) := by rw [e1]; simp
      have hne : σ (vx n) ≠ [] := fun e => by rw [e] at hl; simp at hl
      rw [if_neg e3, if_neg hn, e2]
      by_cases h0 : g.getD (vx n) default = []
      · rw [if_pos h0]
        have := lin_complete σ p (q ++ σ (vx n)) r (g.set (vx n) (σ (vx n))) e4 (by simpa using hp') (fun w => by
          rw [set_getD]
          split
          · rename_i h; obtain ⟨rfl, _⟩ := h; exact .inr rfl
          · exact hg w)
        simpa using this
      · rw [if_neg h0, if_pos ((hg (vx n)).resolve_left h0)]
        have := lin_complete σ p (q ++ σ (vx n)) r g e4 hp' hg
        simpa using this
def G0 : Bnd := List.replicate 24 []
theorem G0_get (v : Nat) : G0.getD v default = [] := by
  unfold G0
  rw [List.getD_eq_getElem?_getD, List.getElem?_replicate]
  split <;> rfl
/-- two patterns match two terms -/
def match2 (rs a b c d : List Int) : Prop := (linM rs c a 0 G0).2 = true ∧ (linM rs d b 0 (linM rs c a 0 G0).1).2 = true
theorem match2_iff {rs a b c d : List Int} (ha : TermOkP rs a) (hb : TermOkP rs b) (hc : TermOkP rs c) (hd : TermOkP rs d) :
    match2 rs a b c d ↔ ∃ σ : Nat → List Int, (∀ n ∈ a ++ b, n < 0 → Fl rs 1 (σ (vx n))) ∧ c = appF σ a ∧ d = appF σ b := by
  constructor
  · rintro ⟨h1, h2⟩
    obtain ⟨x1, _, x2, _, x4, x5, x6⟩ := lin_sound hc a 0 G0 _ ha.ge rfl (by omega) (fun v hv => absurd (G0_get v) hv) (Prod.ext rfl h1 : linM rs c a 0 G0 = ((linM rs c a 0 G0).1, true))
    obtain ⟨y1, _, y2, y3, y4, y5, y6⟩ := lin_sound hd b 0 _ _ hb.ge x6 (by omega) x5 (Prod.ext rfl h2 : linM rs d b 0 (linM rs c a 0 G0).1 = ((linM rs d b 0 (linM rs c a 0 G0).1).1, true))
    rw [List.drop_zero] at x2 y2
    generalize (linM rs c a 0 G0).1 = g1 at *
    generalize (linM rs d b 0 g1).1 = g2 at *
    have e1 : appF (gF g1) a = appF (gF g2) a := appF_congr fun n hn h0 => (y3 _ (x4 n hn h0)).symm
    rw [e1] at x2
    have fa : ∀ n ∈ a, n < 0 → Fl rs 1 (gF g2 (vx n)) := fun n hn h0 => y5 _ (by rw [y3 _ (x4 n hn h0)]; exact x4 n hn h0)
    have fb : ∀ n ∈ b, n < 0 → Fl rs 1 (gF g2 (vx n)) := fun n hn h0 => y5 _ (y4 n hn h0)
    refine ⟨gF g2, fun n hn h0 => ?_, (Fl.pre (termOk_fl hc) (appF_fl (termOk_fl ha) fa) x2).1, (Fl.pre (termOk_fl hd) (appF_fl (termOk_fl hb) fb) y2).1⟩
    rcases List.mem_append.1 hn with hn | hn
    · exact fa n hn h0
    · exact fb n hn h0
  · rintro ⟨σ, h1, h2, h3⟩
    have hv : ∀ n, -24 ≤ n → n < 0 → vx n < 24 := fun n _ _ => by unfold vx; omega
    obtain ⟨g1, k1, k2, k3⟩ := lin_complete (rs := rs) (t := c) σ a [] [] G0 (by simpa using h2) (fun n hn h0 => ⟨h1 n (List.mem_append_left _ hn) h0, hv n (ha.ge n hn) h0⟩) (fun v => .inl (G0_get v))
    obtain ⟨g2, l1, l2, l3⟩ := lin_complete (rs := rs) (t := d) σ b [] [] g1 (by simpa using h3) (fun n hn h0 => ⟨h1 n (List.mem_append_right _ hn) h0, by rw [k3]; exact hv n (hb.ge n hn) h0⟩) k2
    simp only [List.length_nil] at k1 l1
    exact ⟨by rw [k1], by rw [k1]; rw [l1]⟩
/-! One numbering. -/
def codeI (s : List Int) (n : Int) : Int := if 0 ≤ n then n else -1 - (s.idxOf n : Int)
def seenS : List Int → List Int → List Int
  | s, [] => s
  | s, n :: l => if 0 ≤ n ∨ n ∈ s then seenS s l else seenS (s ++ [n]) l
def renL : List Int → List (List Int) → List (List Int)
  | _, [] => []
  | s, t :: r => t.map (codeI (seenS s t)) :: renL (seenS s t) r
theorem seenS_pre : ∀ (t s : List Int), ∃ r, seenS s t = s ++ r
  | [], s => ⟨[], by simp [seenS]⟩
  | n :: l, s => by
    simp only [seenS]
    split
    · exact seenS_pre l s
    · obtain ⟨r, h⟩ := seenS_pre l (s ++ [n])
      exact ⟨n :: r, by rw [h]; simp⟩
theorem seenS_mem : ∀ (t s : List Int), ∀ n ∈ t, n < 0 → n ∈ seenS s t
  | [], _, n, hn, _ => by cases hn
  | m :: l, s, n, hn, h0 => by
    simp only [seenS]
    rcases List.mem_cons.1 hn with rfl | hn
    · split
      · rename_i h
        obtain ⟨r, e⟩ := seenS_pre l s
        rw [e]; exact List.mem_append_left _ (h.resolve_left (by omega))
      · obtain ⟨r, e⟩ := seenS_pre l (s ++ [n])
        rw [e]; simp
    · split
      · exact seenS_mem l s n hn h0
      · exact seenS_mem l _ n hn h0
theorem codeI_mono {s r : List Int} {n : Int} (h : 0 ≤ n ∨ n ∈ s) : codeI (s ++ r) n = codeI s n := by
  unfold codeI
  split
  · rfl
  · rw [List.idxOf_append, if_pos (h.resolve_left (by omega))]
theorem code_all {s t r : List Int} : t.map (codeI (seenS s t ++ r)) = t.map (codeI (seenS s t)) := List.map_congr_left fun n hn => codeI_mono (by
  by_cases h : 0 ≤ n
  · exact .inl h
  · exact .inr (seenS_mem t s n hn (by omega)))
theorem renL_two (a b : List Int) : renL [] [a, b] = [a.map (codeI (seenS (seenS [] a) b)), b.map (codeI (seenS (seenS [] a) b))] := by
  obtain ⟨r, h⟩ := seenS_pre b (seenS [] a)
  simp only [renL]
  rw [h, code_all]
theorem idxOf_map {f : Int → Int} {n : Int} : ∀ {s : List Int}, (∀ m ∈ s, f m = f n → m = n) → (s.map f).idxOf (f n) = s.idxOf n
  | [], _ => rfl
  | m :: s, h => by
    rw [List.map_cons, List.idxOf_cons, List.idxOf_cons]
    by_cases e : m = n
    · subst e; simp
    · have : f m ≠ f n := fun e2 => e (h m List.mem_cons_self e2)
      have ih := idxOf_map (f := f) (n := n) (s := s) fun k hk => h k (List.mem_cons_of_mem _ hk)
      rw [ih, beq_eq_false_iff_ne.2 this, beq_eq_false_iff_ne.2 e]
theorem seenS_map {f : Int → Int} {X : List Int} (hs : ∀ n ∈ X, 0 ≤ f n ↔ 0 ≤ n) (hi : ∀ n ∈ X, ∀ m ∈ X, f n = f m → n = m) : ∀ (t s : List Int), (∀ n ∈ t, n ∈ X) → (∀ n ∈ s, n ∈ X) → seenS (s.map f) (t.map f) = (seenS s t).map f
  | [], s, _, _ => rfl
  | n :: l, s, ht, hsx => by
    have hn := ht n List.mem_cons_self
    have ih := fun s' hs' => seenS_map hs hi l s' (fun m hm => ht m (List.mem_cons_of_mem _ hm)) hs'
    have hmem : f n ∈ s.map f ↔ n ∈ s := ⟨fun h => by
      obtain ⟨m, hm, e⟩ := List.mem_map.1 h
      rw [← hi m (hsx m hm) n hn e]; exact hm, fun h => List.mem_map_of_mem h⟩
    simp only [List.map_cons, seenS, hs n hn, hmem]
    split
    · exact ih s hsx
    · have := ih (s ++ [n]) (fun m hm => by
        rcases List.mem_append.1 hm with hm | hm
        · exact hsx m hm
        · rw [List.mem_singleton.1 hm]; exact hn)
      rw [List.map_append] at this
      exact this
theorem codeI_map {f : Int → Int} {X : List Int} (hs : ∀ n ∈ X, 0 ≤ f n ↔ 0 ≤ n) (hi : ∀ n ∈ X, ∀ m ∈ X, f n = f m → n = m) (hf : ∀ n ∈ X, 0 ≤ n → f n = n) {s : List Int} (hsx : ∀ n ∈ s, n ∈ X) {n : Int} (hn : n ∈ X) : codeI (s.map f) (f n) = codeI s n := by
  unfold codeI
  by_cases h : 0 ≤ n
  · rw [if_pos ((hs n hn).2 h), if_pos h, hf n hn h]
  · rw [if_neg (fun e => h ((hs n hn).1 e)), if_neg h, idxOf_map fun m hm e => hi m (hsx m hm) n hn e]
theorem seenS_sub : ∀ (t s : List Int), ∀ n ∈ seenS s t, n ∈ s ∨ (n ∈ t ∧ n < 0)
  | [], s, n, h => .inl h
  | m :: l, s, n, h => by
    simp only [seenS] at h
    split at h
    · rcases seenS_sub l s n h with h | ⟨h, h0⟩
      · exact .inl h
      · exact .inr ⟨List.mem_cons_of_mem _ h, h0⟩
    · rename_i hc
      rcases seenS_sub l _ n h with h | ⟨h, h0⟩
      · rcases List.mem_append.1 h with h | h
        · exact .inl h
        · rw [List.mem_singleton.1 h]
          exact .inr ⟨List.mem_cons_self, by omega⟩
      · exact .inr ⟨List.mem_cons_of_mem _ h, h0⟩
theorem renL_map {f : Int → Int} (a b : List Int) (hs : ∀ n ∈ a ++ b, 0 ≤ f n ↔ 0 ≤ n) (hi : ∀ n ∈ a ++ b, ∀ m ∈ a ++ b, f n = f m → n = m) (hf : ∀ n ∈ a ++ b, 0 ≤ n → f n = n) : renL [] [a.map f, b.map f] = renL [] [a, b] := by
  have ha : ∀ n ∈ a, n ∈ a ++ b := fun n h => List.mem_append_left _ h
  have hb : ∀ n ∈ b, n ∈ a ++ b := fun n h => List.mem_append_right _ h
  have e1 := seenS_map hs hi a [] ha (by simp)
  have h1 : ∀ n ∈ seenS [] a, n ∈ a ++ b := fun n h => by
    rcases seenS_sub a [] n h with h | h
    · cases h
    · exact ha n h.1
  have e2 := seenS_map hs hi b _ hb h1
  have h2 : ∀ n ∈ seenS (seenS [] a) b, n ∈ a ++ b := fun n h => by
    rcases seenS_sub b _ n h with h | h
    · exact h1 n h
    · exact hb n h.1
  simp only [List.map_nil] at e1
  rw [renL_two, renL_two, e1, e2]
  simp only [List.map_map, List.cons.injEq, and_true]
  exact ⟨List.map_congr_left fun n hn => codeI_map hs hi hf h2 (ha n hn), List.map_congr_left fun n hn => codeI_map hs hi hf h2 (hb n hn)⟩
theorem appF_len {rs : List Int} {σ : Nat → List Int} : ∀ {p : List Int}, (∀ n ∈ p, n < 0 → Fl rs 1 (σ (vx n))) → p.length ≤ (appF σ p).length ∧ ((appF σ p).length = p.length → appF σ p = p.map fun n => if 0 ≤ n then n else (σ (vx n)).getD 0 default)
  | [], _ => ⟨Nat.le_refl _, fun _ => rfl⟩
  | n :: p, h => by
    obtain ⟨h1, h2⟩ := appF_len (p := p) fun m hm => h m (List.mem_cons_of_mem _ hm)
    rw [appF_cons]
    by_cases hn : 0 ≤ n
    · simp only [if_pos hn, List.singleton_append, List.length_cons, List.map_cons]
      exact ⟨by omega, fun e => by rw [h2 (by omega)]⟩
    · have hl := (h n List.mem_cons_self (by omega)).len
      simp only [if_neg hn, List.length_append, List.length_cons, List.map_cons]
      refine ⟨by omega, fun e => ?_⟩
      rw [h2 (by omega)]
      have : (σ (vx n)).length = 1 := by omega
      obtain ⟨x, hx⟩ := List.length_eq_one_iff.1 this
      rw [hx]; rfl
def decI (s : List Int) (k : Int) : Int := if 0 ≤ k then k else s.getD (-1 - k).toNat default
theorem dec_code {s : List Int} {n : Int} (h : 0 ≤ n ∨ n ∈ s) : decI s (codeI s n) = n := by
  unfold codeI decI
  by_cases h0 : 0 ≤ n
  · rw [if_pos h0, if_pos h0]
  · have hm := h.resolve_left h0
    rw [if_neg h0, if_neg (by omega), show (-1 - (-1 - (s.idxOf n : Int))).toNat = s.idxOf n by omega]
    have hlt := List.idxOf_lt_length_of_mem hm
    simp [List.getD, hlt]
theorem variant_half {rs a b c d : List Int} (ha : TermOkP rs a) (hb : TermOkP rs b) (hc : TermOkP rs c) (hd : TermOkP rs d) (h : renL [] [a, b] = renL [] [c, d]) : match2 rs a b c d := by
  rw [renL_two, renL_two] at h
  have ca := fun n hn h0 => seenS_mem a [] n hn h0
  obtain ⟨r, e⟩ := seenS_pre b (seenS [] a)
  obtain ⟨r', e'⟩ := seenS_pre d (seenS [] c)
  have hS' : ∀ n ∈ c ++ d, 0 ≤ n ∨ n ∈ seenS (seenS [] c) d := fun n hn => by
    by_cases h0 : 0 ≤ n
    · exact .inl h0
    · rcases List.mem_append.1 hn with hn | hn
      · rw [e']; exact .inr (List.mem_append_left _ (seenS_mem c [] n hn (by omega)))
      · exact .inr (seenS_mem d _ n hn (by omega))
  generalize seenS (seenS [] a) b = s at h
  generalize seenS (seenS [] c) d = s' at h hS'
  simp only [List.cons.injEq, and_true] at h
  obtain ⟨h1, h2⟩ := h
  have back : ∀ x : List Int, (∀ n ∈ x, n ∈ c ++ d) → (x.map (codeI s')).map (decI s') = x := fun x hx => by
    rw [List.map_map]
    conv => rhs; rw [← List.map_id x]
    exact List.map_congr_left fun n hn => dec_code (hS' n (hx n hn))
  have e1 : a.map (fun n => decI s' (codeI s n)) = c := by
    have := back c fun n h => List.mem_append_left _ h
    rw [← h1, List.map_map] at this
    exact this
  have e2 : b.map (fun n => decI s' (codeI s n)) = d := by
    have := back d fun n h => List.mem_append_right _ h
    rw [← h2, List.map_map] at this
    exact this
  have neg : ∀ (x y : List Int), x.map (codeI s) = y.map (codeI s') → (∀ n ∈ y, n ∈ c ++ d) → ∀ n ∈ x, n < 0 → decI s' (codeI s n) ∈ y ∧ decI s' (codeI s n) < 0 := fun x y hxy hy n hn h0 => by
    have : codeI s n ∈ y.map (codeI s') := by rw [← hxy]; exact List.mem_map_of_mem hn
    obtain ⟨m, hm, em⟩ := List.mem_map.1 this
    rw [← em, dec_code (hS' m (hy m hm))]
    refine ⟨hm, ?_⟩
    have : codeI s n < 0 := by unfold codeI; rw [if_neg (by omega)]; omega
    rw [← em] at this
    unfold codeI at this
    split at this <;> omega
  have one : ∀ m : Int, -24 ≤ m → m < 0 → Fl rs 1 [m] := fun m h1 h2 => by
    have : arS rs m = 0 := arS_var ⟨h1, by omega⟩
    exact .cons (by omega) (by rw [this]; exact .nil)
  have hvx : ∀ n : Int, n < 0 → -1 - (vx n : Int) = n := fun n h => by unfold vx; omega
  have hσ : ∀ x : List Int, appF (fun v => [decI s' (codeI s (-1 - (v : Int)))]) x = x.map fun n => decI s' (codeI s n) := fun x => by
    induction x with
    | nil => rfl
    | cons n x ih =>
      rw [appF_cons, List.map_cons, ih]
      by_cases h0 : 0 ≤ n
      · rw [if_pos h0]
        have : codeI s n = n := by unfold codeI; rw [if_pos h0]
        simp [this, decI, h0]
      · rw [if_neg h0, hvx n (by omega)]; rfl
  refine (match2_iff ha hb hc hd).2 ⟨fun v => [decI s' (codeI s (-1 - (v : Int)))], fun n hn h0 => ?_, by rw [hσ, e1], by rw [hσ, e2]⟩
  show Fl rs 1 [decI s' (codeI s (-1 - (vx n : Int)))]
  rw [hvx n h0]
  rcases List.mem_append.1 hn with hn | hn
  · obtain ⟨q1, q2⟩ := neg a c h1 (fun n h => List.mem_append_left _ h) n hn h0
    exact one _ (hc.ge _ q1) q2
  · obtain ⟨q1, q2⟩ := neg b d h2 (fun n h => List.mem_append_right _ h) n hn h0
    exact one _ (hd.ge _ q1) q2
theorem variant_iff {rs a b c d : List Int} (ha : TermOkP rs a) (hb : TermOkP rs b) (hc : TermOkP rs c) (hd : TermOkP rs d) :
    (match2 rs a b c d ∧ match2 rs c d a b) ↔ renL [] [a, b] = renL [] [c, d] := by
  refine ⟨?_, fun h => ⟨variant_half ha hb hc hd h, variant_half hc hd ha hb h.symm⟩⟩
  rintro ⟨h1, h2⟩
  obtain ⟨σ, s1, s2, s3⟩ := (match2_iff ha hb hc hd).1 h1
  obtain ⟨τ, t1, t2, t3⟩ := (match2_iff hc hd ha hb).1 h2
  have sa := appF_len (rs := rs) (σ := σ) (p := a) fun n hn => s1 n (List.mem_append_left _ hn)
  have sb := appF_len (rs := rs) (σ := σ) (p := b) fun n hn => s1 n (List.mem_append_right _ hn)
  have ta := appF_len (rs := rs) (σ := τ) (p := c) fun n hn => t1 n (List.mem_append_left _ hn)
  have tb := appF_len (rs := rs) (σ := τ) (p := d) fun n hn => t1 n (List.mem_append_right _ hn)
  rw [← s2] at sa
  rw [← s3] at sb
  rw [← t2] at ta
  rw [← t3] at tb
  have ec := sa.2 (by omega)
  have ed := sb.2 (by omega)
  have ea := ta.2 (by omega)
  have eb := tb.2 (by omega)
  generalize hf : (fun n : Int => if 0 ≤ n then n else (σ (vx n)).getD 0 default) = f at ec ed
  generalize hh : (fun n : Int => if 0 ≤ n then n else (τ (vx n)).getD 0 default) = h at ea eb
  have f0 : ∀ n, 0 ≤ n → f n = n := fun n hn => by rw [← hf]; simp [hn]
  have h0 : ∀ n, 0 ≤ n → h n = n := fun n hn => by rw [← hh]; simp [hn]
  have inv : ∀ n ∈ a ++ b, h (f n) = n := fun n hn => by
    have key : ∀ x y : List Int, y = x.map f → x = y.map h → ∀ m ∈ x, h (f m) = m := fun x y e1 e2 m hm => by
      rw [e1, List.map_map] at e2
      have : x.map (h ∘ f) = x.map id := by rw [List.map_id]; exact e2.symm
      exact (List.map_inj_left.1 this) m hm
    rcases List.mem_append.1 hn with hn | hn
    · exact key a c ec ea n hn
    · exact key b d ed eb n hn
  rw [ec, ed]
  refine (renL_map a b (fun n hn => ⟨fun h1 => ?_, fun h1 => by rw [f0 n h1]; exact h1⟩) (fun n hn m hm e => ?_) (fun n _ h1 => f0 n h1)).symm
  · have := inv n hn
    rw [h0 _ h1] at this
    omega
  · rw [← inv n hn, e, inv m hm]
end Go.Proofs.Ytobbdopkdhjghaa
