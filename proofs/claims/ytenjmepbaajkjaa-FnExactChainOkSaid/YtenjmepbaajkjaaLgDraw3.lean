/-
  Lg, part 16b: a region that draws its order, whose last operations wait for all the others: these may be of any kind.
-/
import Derived.Test.YtenjmepbaajkjaaLgDraw2
namespace Go.Lg
open Go Go.RowKit

section
variable {md : Region.Mode} {ops : Array Oper}
def ons (md : Region.Mode) (ops : Array Oper) (j : Nat) : List Nat := match ops[j]? with
  | some o => (o.after.toList.filter (Region.binds md)).map (·.on)
  | none => []
/-- All that must have been done ahead. -/
def clos (md : Region.Mode) (ops : Array Oper) : Nat → List Nat → List Nat
  | 0, s => s
  | j + 1, s => clos md ops j (if s.contains j then ons md ops j ++ s else s)
def tailB (md : Region.Mode) (ops : Array Oper) (m : Nat) : Bool :=
  (List.range' m (ops.size - m)).all fun k => (ons md ops k).all (· < k) && (List.range k).all fun j => (clos md ops k (ons md ops k)).contains j
def lexHead (md : Region.Mode) (ops : Array Oper) : Nat → Nat → Array Bool → Bool
  | 0, _, _ => true
  | f + 1, k, listed => (Region.ready md ops listed).contains k && Region.free md ops listed k && lexHead md ops f (k + 1) (listed.setIfInBounds k true)
def drawT (md : Region.Mode) (ops : Array Oper) (m : Nat) : Bool := lexHead md ops m 0 (Array.replicate ops.size false) && tailB md ops m && decide (m ≤ ops.size)

def Down (md : Region.Mode) (ops : Array Oper) (listed : Array Bool) : Prop := ∀ j, listed.getD j false = true → ∀ x ∈ ons md ops j, listed.getD x false = true
theorem clos_listed {listed : Array Bool} (h : Down md ops listed) : ∀ (j : Nat) (s : List Nat), (∀ x ∈ s, listed.getD x false = true) → ∀ x ∈ clos md ops j s, listed.getD x false = true
  | 0, s, hs, x, hx => hs x hx
  | j + 1, s, hs, x, hx => by
    unfold clos at hx
    refine clos_listed h j _ (fun y hy => ?_) x hx
    split at hy
    · rename_i hc
      rcases List.mem_append.1 hy with hy | hy
      · exact h j (hs j (by simpa using hc)) y hy
      · exact hs y hy
    · exact hs y hy
theorem ready_ons {listed : Array Bool} {k : Nat} (h : k ∈ Region.ready md ops listed) : ∀ x ∈ ons md ops k, listed.getD x false = true := by
  obtain ⟨_, o, ho, hall⟩ := mem_ready.1 h
  intro x hx
  simp only [ons, ho, List.mem_map, List.mem_filter] at hx
  obtain ⟨e, ⟨he, hb⟩, rfl⟩ := hx
  exact hall e (by simpa using he) hb
theorem ready_lt {listed : Array Bool} {k : Nat} (h : k ∈ Region.ready md ops listed) : k < ops.size := by
  obtain ⟨_, o, ho, _⟩ := mem_ready.1 h
  exact (Array.getElem?_eq_some_iff.1 ho).1
theorem tail_spec {m k : Nat} (hB : tailB md ops m = true) (hm : m ≤ k) (hk : k < ops.size) : (∀ x ∈ ons md ops k, x < k) ∧ ∀ j < k, j ∈ clos md ops k (ons md ops k) := by
  have h1 := List.all_eq_true.1 hB k (List.mem_range'_1.2 ⟨hm, by omega⟩)
  simp only [Bool.and_eq_true, List.all_eq_true, decide_eq_true_eq, List.mem_range] at h1
  exact ⟨h1.1, fun j hj => by simpa using h1.2 j hj⟩
theorem ready_tail {listed : Array Bool} {m k : Nat} (hB : tailB md ops m = true) (hd : Down md ops listed) (hm : m ≤ k) (hk : k ∈ Region.ready md ops listed) : ∀ j < k, listed.getD j false = true := fun j hj =>
  clos_listed hd k _ (ready_ons hk) j ((tail_spec hB hm (ready_lt hk)).2 j hj)
theorem getD_tf {listed : Array Bool} {i : Nat} (h : listed.getD i true = false) : listed.getD i false = false ∧ i < listed.size := by
  rcases Nat.lt_or_ge i listed.size with h' | h'
  · simp [h'] at h ⊢; exact h
  · simp [Array.getElem?_eq_none h'] at h
theorem down_set {listed : Array Bool} {i : Nat} (hd : Down md ops listed) (hi : i ∈ Region.ready md ops listed) : Down md ops (listed.setIfInBounds i true) := fun j hj x hx => by
  by_cases e : i = j
  · subst e; exact getD_set_true (ready_ons hi x hx)
  · rw [getD_set_ne false e] at hj
    exact getD_set_true (hd j hj x hx)

def cntU (m : Nat) (listed : Array Bool) : Nat := ((List.range m).filter fun j => !listed.getD j true).length
theorem cntU_set {listed : Array Bool} {i : Nat} (hi : listed.getD i true = false) : ∀ m, i < m → cntU m (listed.setIfInBounds i true) + 1 = cntU m listed
  | 0, h => absurd h (Nat.not_lt_zero _)
  | m + 1, h => by
    unfold cntU
    rw [List.range_succ, List.filter_append, List.filter_append, List.length_append, List.length_append]
    have hset : (listed.setIfInBounds i true).getD i true = true := by
      obtain ⟨_, hlt⟩ := getD_tf hi
      simp [hlt]
    by_cases e : i = m
    · subst e
      have hsame : ((List.range i).filter fun j => !(listed.setIfInBounds i true).getD j true) = (List.range i).filter fun j => !listed.getD j true :=
        List.filter_congr fun j hj => by
          have : i ≠ j := by have := List.mem_range.1 hj; omega
          rw [getD_set_ne true this]
      rw [hsame]
      simp only [List.filter_cons, List.filter_nil, hi, hset]
      simp
    · have ih := cntU_set hi m (by omega)
      unfold cntU at ih
      have : (List.filter (fun j => !(listed.setIfInBounds i true).getD j true) [m]) = List.filter (fun j => !listed.getD j true) [m] :=
        List.filter_congr fun j hj => by
          have : i ≠ j := by have := List.mem_singleton.1 hj; omega
          rw [getD_set_ne true this]
      rw [this]
      omega
theorem cntU_one {listed : Array Bool} {m i j : Nat} (h : cntU m listed = 1) (hi : listed.getD i true = false) (hj : listed.getD j true = false) (him : i < m) (hjm : j < m) : i = j := by
  obtain ⟨x, hx⟩ := List.length_eq_one_iff.1 h
  have h1 : i ∈ (List.range m).filter fun j => !listed.getD j true := List.mem_filter.2 ⟨List.mem_range.2 him, by simp [hi]⟩
  have h2 : j ∈ (List.range m).filter fun j => !listed.getD j true := List.mem_filter.2 ⟨List.mem_range.2 hjm, by simp [hj]⟩
  rw [hx] at h1 h2
  rw [List.mem_singleton.1 h1, List.mem_singleton.1 h2]
theorem cntU_zero {listed : Array Bool} {m : Nat} (h : cntU m listed = 0) : ∀ i < m, listed.getD i true = true := fun i hi => by
  have h0 := List.length_eq_zero_iff.1 h
  cases hb : listed.getD i true with
  | true => rfl
  | false =>
    have : i ∈ (List.range m).filter fun j => !listed.getD j true := List.mem_filter.2 ⟨List.mem_range.2 hi, by simp only [hb]; rfl⟩
    rw [h0] at this
    cases this
structure InvT (md : Region.Mode) (ops : Array Oper) (m f : Nat) (listed : Array Bool) : Prop where
  down : Down md ops listed
  size : listed.size = ops.size
  rest : ∀ j, m ≤ j → j < ops.size → listed.getD j true = false
  cnt : cntU m listed = f
theorem InvT.lt {m f i : Nat} {listed : Array Bool} (hB : tailB md ops m = true) (h : InvT md ops m (f + 1) listed) (hi : i ∈ Region.ready md ops listed) : i < m := by
  refine Nat.lt_of_not_le fun hm => ?_
  have hall := ready_tail hB h.down hm hi
  have : cntU m listed = 0 := by
    unfold cntU
    rw [List.length_eq_zero_iff, List.filter_eq_nil_iff]
    intro j hj
    have hj := List.mem_range.1 hj
    have h1 := hall j (by omega)
    have hlt : j < listed.size := by
      rcases Nat.lt_or_ge j listed.size with h' | h'
      · exact h'
      · simp [Array.getElem?_eq_none h'] at h1
    simp [hlt] at h1 ⊢
    exact h1
  rw [h.cnt] at this
  omega
theorem InvT.set {m f i : Nat} {listed : Array Bool} (h : InvT md ops m (f + 1) listed) (hi : i ∈ Region.ready md ops listed) (him : i < m) : InvT md ops m f (listed.setIfInBounds i true) := by
  refine ⟨down_set h.down hi, by simpa using h.size, fun j hj hlt => ?_, ?_⟩
  · rw [getD_set_ne true (by omega)]; exact h.rest j hj hlt
  · have := cntU_set (mem_ready.1 hi).1 m him
    have := h.cnt
    omega
end

section
variable {S : Setup} {ops : Array Oper} {bx : Nat → Option (List D)} {n m : Nat} {md : Region.Mode}
def wpAnyT (S : Setup) (md : Region.Mode) (ops : Array Oper) (bx : Nat → Option (List D)) (n : Nat) (Q : Env → Prop) : Nat → Array Bool → Env → Prop
  | 0, _, E => Q E
  | f + 1, listed, E => Region.ready md ops listed ≠ [] ∧ ∀ i ∈ Region.ready md ops listed, qE S ops bx n i (wpAnyT S md ops bx n Q f (listed.setIfInBounds i true)) E

theorem wpAnyT_first {Q : Env → Prop} {i : Nat} {oi : Oper} {d : D} (hi : ops[i]? = some oi) (hB : tailB md ops m = true) (him : i < m) :
    ∀ (f : Nat) (listed : Array Bool) (E : Env), InvT md ops m (f + 1) listed →
      (∀ j oj, ops[j]? = some oj → j ≠ i → listed.getD j true = false → (∀ e ∈ oj.after, Region.binds md e = true → e.on ≠ i) → oi.apart ops oj = true) →
      i ∈ Region.ready md ops listed → YieldsE S ops bx n oi d E →
      wpAnyT S md ops bx n Q f (listed.setIfInBounds i true) (putE E oi.dst d) → wpAnyT S md ops bx n Q (f + 1) listed E := by
  intro f
  induction f with
  | zero =>
    intro listed E hinv _ hr hy H
    refine ⟨fun h => (by rw [h] at hr; cases hr), fun j hj => ?_⟩
    have hjm := hinv.lt hB hj
    obtain rfl := cntU_one hinv.cnt (mem_ready.1 hr).1 (mem_ready.1 hj).1 him hjm
    exact hy.qE hi H
  | succ f ih =>
    intro listed E hinv hfree hr hy H
    refine ⟨fun h => (by rw [h] at hr; cases hr), fun j hj => ?_⟩
    by_cases hji : j = i
    · subst hji; exact hy.qE hi H
    · have h1 := H.2 j (ready_mono hj hji)
      obtain ⟨hjun, oj, hoj, hall⟩ := mem_ready.1 hj
      have hnot : ∀ e ∈ oj.after, Region.binds md e = true → e.on ≠ i := fun e he hb heq => by
        have h1 := hall e he hb
        have h0 := (getD_tf (mem_ready.1 hr).1).1
        rw [heq, h0] at h1
        cases h1
      have h2 := qE_put hoj (hfree j oj hoj hji hjun hnot) hy h1
      have hfree' : ∀ k ok, ops[k]? = some ok → k ≠ i → (listed.setIfInBounds j true).getD k true = false →
          (∀ e ∈ ok.after, Region.binds md e = true → e.on ≠ i) → oi.apart ops ok = true := fun k ok hk hki hun hno => by
        refine hfree k ok hk hki ?_ hno
        by_cases hjk : j = k
        · subst hjk; exact hjun
        · rw [getD_set_ne true hjk] at hun; exact hun
      refine qE_mono (fun E' h3 => ih (listed.setIfInBounds j true) E' (hinv.set hj (hinv.lt hB hj)) hfree' (ready_mono hr (Ne.symm hji)) h3.1 ?_) h2
      rw [Array.setIfInBounds_comm _ _ hji]
      exact h3.2
theorem wpAnyT_lex {Q : Env → Prop} (hB : tailB md ops m = true) : ∀ (l : List Oper) (k : Nat) (listed : Array Bool) (E : Env), (∀ j, j < l.length → l[j]? = ops[k + j]?) → k + l.length = m → InvT md ops m l.length listed →
    lexHead md ops l.length k listed = true → lexE S ops bx n Q l E → wpAnyT S md ops bx n Q l.length listed E
  | [], _, _, _, _, _, _, _, h => h
  | o :: l, k, listed, E, hl, hk, hinv, hL, h => by
    have h0 : ops[k]? = some o := by simpa using (hl 0 (by simp)).symm
    simp only [List.length_cons, lexHead, Bool.and_eq_true] at hL
    obtain ⟨⟨hr, hf⟩, hL'⟩ := hL
    have hr' : k ∈ Region.ready md ops listed := by simpa using hr
    obtain ⟨d, hy, hK⟩ := h
    simp only [List.length_cons] at hk
    exact wpAnyT_first h0 hB (by omega) l.length listed E hinv (Region.free_spec h0 hf) hr' hy
      (wpAnyT_lex hB l (k + 1) _ _ (fun j hj => by have := hl (j + 1) (by simpa using hj); simpa [Nat.add_assoc, Nat.add_comm 1 j] using this) (by omega) (hinv.set hr' (by omega)) hL' hK)

theorem wpAny_of_T {B : Base} {L0 : LS} {r : Nat} {Q : Env → Prop} {Q' : Exit → Act → World → Prop} (hB : tailB md ops m = true) (hQ : ∀ listed E G a w, InvT md ops m 0 listed → SimE B L0 E G a w → Q E → wpAny S.P md ops Q' r listed a w) : ∀ (f : Nat) (listed : Array Bool) (E : Env) (G : Ghost) (a : Act) (w : World), InvT md ops m f listed → SimE B L0 E G a w →
    wpAnyT S md ops L0.getBox L0.n Q f listed E → wpAny S.P md ops Q' (f + r) listed a w
  | 0, listed, E, G, a, w, hinv, hs, h => by rw [Nat.zero_add]; exact hQ listed E G a w hinv hs h
  | f + 1, listed, E, G, a, w, hinv, hs, h => by
    rw [show f + 1 + r = (f + r) + 1 by omega]
    exact ⟨fun h0 => absurd h0 h.1, fun i hi => wpOp_of_qE hs (fun E G a' w' hs' hK => wpAny_of_T hB hQ f _ E G a' w' (hinv.set hi (hinv.lt hB hi)) hs' hK) (h.2 i hi)⟩

/-- The last operations, one behind the other. -/
theorem tail_run {P : Program} {Q : Exit → Act → World → Prop} (hB : tailB md ops m = true) : ∀ (r k : Nat) (listed : Array Bool) (a : Act) (w : World), k + r = ops.size → m ≤ k → listed.size = ops.size → Down md ops listed → (∀ j < k, listed.getD j true = true) → (∀ j, k ≤ j → j < ops.size → listed.getD j true = false) →
    wpList P ops Q (ops.toList.drop k) a w → wpAny P md ops Q r listed a w
  | 0, k, listed, a, w, hk, hm, hsz, hd, h1, h2, h => by
    rw [List.drop_of_length_le (by simp; omega)] at h
    refine ⟨List.eq_nil_iff_forall_not_mem.2 fun j hj => ?_, h⟩
    have := (mem_ready.1 hj).1
    rw [h1 j (by have := ready_lt hj; omega)] at this
    cases this
  | r + 1, k, listed, a, w, hk, hm, hsz, hd, h1, h2, h => by
    have hlt : k < ops.size := by omega
    have hlf : ∀ j < k, listed.getD j false = true := fun j hj => by
      have := h1 j hj
      simp [show j < listed.size by omega] at this ⊢
      exact this
    have hready : k ∈ Region.ready md ops listed := mem_ready.2 ⟨h2 k (Nat.le_refl _) hlt, ops[k], Array.getElem?_eq_getElem hlt, fun e he hb => hlf _ ((tail_spec hB hm hlt).1 e.on (by
      simp only [ons, Array.getElem?_eq_getElem hlt, List.mem_map, List.mem_filter]
      exact ⟨e, ⟨by simpa using he, hb⟩, rfl⟩))⟩
    refine ⟨fun h0 => (by rw [h0] at hready; cases hready), fun i hi => ?_⟩
    have hik : i = k := by
      have hge : k ≤ i := Nat.le_of_not_lt fun hl => by
        have := (mem_ready.1 hi).1
        rw [h1 i hl] at this; cases this
      refine Nat.le_antisymm (Nat.le_of_not_lt fun hl => ?_) hge
      have := ready_tail hB hd (Nat.le_trans hm hge) hi k hl
      have h3 := (getD_tf (h2 k (Nat.le_refl _) hlt)).1
      rw [h3] at this; cases this
    subst hik
    have hdrop : ops.toList.drop i = ops[i] :: ops.toList.drop (i + 1) := by
      rw [List.drop_eq_getElem_cons (by simpa using hlt)]
      simp
    rw [hdrop] at h
    have ih := fun a w => tail_run (P := P) (Q := Q) hB r (i + 1) (listed.setIfInBounds i true) a w (by omega) (by omega) (by simpa using hsz) (down_set hd hready) (fun j hj => by
        by_cases e : i = j
        · subst e; simp [show i < listed.size by omega]
        · rw [getD_set_ne true e]; exact h1 j (by omega)) (fun j hj hl => by rw [getD_set_ne true (by omega)]; exact h2 j (by omega) hl)
    unfold wpList at h
    unfold wpOp
    simp only [Array.getElem?_eq_getElem hlt]
    split at h
    · rename_i hw
      rw [if_pos hw]
      rcases h with h | h
      · exact .inl (Oper.wp_mono (fun a w hh => ih a w hh) h)
      · exact .inr h
    · rename_i hw
      rw [if_neg hw]
      exact ih _ _ h
end

/-- A region that draws its order, but for its end. -/
theorem drawT_sound {S : Setup} {B : Base} {id m : Nat} {l : List Oper} {L : LS} {G : Ghost} {a : Act} {w : World} {K : LS → Prop} (hB : drawT .any l.toArray m = true) (h : LexQ S l.toArray L (fun L' => LopsW S B l.toArray (l.drop m) L' K) (l.take m) L) (hs : Sim B L G a w) {Q : Exit → Act → World → Prop}
    (hQ : ∀ L' G' a' w', K L' → Sim B L' G' a' w' → Q .normal a' w') : (Code.region id l.toArray true).wp S.P Q a w := by
  simp only [drawT, Bool.and_eq_true, decide_eq_true_eq] at hB
  obtain ⟨⟨hL, hT⟩, hm⟩ := hB
  have hml : m ≤ l.length := by simpa using hm
  have hlen : (l.take m).length = m := by simp; omega
  have hinv : InvT .any l.toArray m m (Array.replicate l.toArray.size false) := by
    refine ⟨fun j hj => ?_, by simp, fun j _ hj => ?_, ?_⟩
    · by_cases hlt : j < l.length <;> simp [hlt] at hj
    · have hj' : j < l.length := by simpa using hj
      simp [hj']
    · unfold cntU
      rw [List.filter_eq_self.2, List.length_range]
      intro j hj
      have hj := List.mem_range.1 hj
      simp [show j < l.length by omega]
  refine wp_region_any S.mixed ?_
  have hsz : l.toArray.size = m + (l.toArray.size - m) := by simp; omega
  rw [hsz]
  rw [← hsz]
  have key := wpAny_of_T (S := S) (B := B) (L0 := L) (r := l.toArray.size - m) (Q' := Q) (Q := fun E => ∃ L', look L'.env = E ∧ (L'.n = L.n ∧ L'.boxes = L.boxes ∧ L'.ro = L.ro ∧ L'.toks = L.toks ∧ L'.fix = L.fix) ∧ LopsW S B l.toArray (l.drop m) L' K) hT ?_ m _ (look L.env) G a { w with drawn := w.drawn + 1 } hinv ⟨L, ⟨rfl, rfl, rfl, rfl, rfl, rfl⟩, drew_sim hs⟩ ?_
  · rw [hsz]; rw [← hsz]
    have e : m + (l.toArray.size - m) = l.toArray.size := hsz.symm
    rw [e] at key
    exact key
  · rintro listed E G' a' w' hi ⟨L1, ⟨e1, e2, e3, e4, e5, e6⟩, hs'⟩ ⟨L', f1, ⟨f2, f3, f4, f5, f6⟩, hK⟩
    have hs2 : Sim B L' G' a' w' := ⟨hs'.defers, by rw [f2, ← e2]; exact hs'.size, fun t d hd => by
      rw [f1, ← e1] at hd
      exact hs'.env t d hd, by rw [f3, f4, f5, ← e3, ← e4, ← e5]; exact hs'.W, by rw [f6, ← e6]; exact hs'.fixed⟩
    exact tail_run hT _ m listed a' w' (by simp; omega) (Nat.le_refl _) hi.size hi.down (cntU_zero hi.cnt) hi.rest (by simpa using hK G' a' w' hs2 Q hQ)
  · have h2 := wpAnyT_lex (S := S) (bx := L.getBox) (n := L.n) (Q := fun E => ∃ L', look L'.env = E ∧ (L'.n = L.n ∧ L'.boxes = L.boxes ∧ L'.ro = L.ro ∧ L'.toks = L.toks ∧ L'.fix = L.fix) ∧ LopsW S B l.toArray (l.drop m) L' K) hT (l.take m) 0 (Array.replicate l.toArray.size false) (look L.env) (fun j hj => by
      rw [hlen] at hj
      rw [List.getElem?_take, if_pos hj, Nat.zero_add]
      simp) (by omega) (by rw [hlen]; exact hinv) (by rw [hlen]; exact hL) (h ⟨rfl, rfl, rfl, rfl, rfl⟩)
    rw [hlen] at h2
    exact h2
end Go.Lg
