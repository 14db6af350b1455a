/-
  Lg, part 16: every order of a region of quiet operations. After the kit's Derived/Deep/Quiet.lean, with logical values in the place of the model's, whose names may differ from order to order.
-/
import Derived.Test.YtenjmepbaajkjaaLgDraw
namespace Go.Lg
open Go Go.RowKit

abbrev Env := Nat → Option D
def putE (E : Env) (t : Option Nat) (d : D) : Env := match t with | some t => fun t' => if t = t' then some d else E t' | none => E
def evalE (E : Env) : Operand → Option D
  | .tmp t => E t
  | .const v => constD v
  | .func f => some (.fn f [])
  | .global _ => none
def guardE (ops : Array Oper) (E : Env) (g : Option (Nat × Bool)) : Option Bool := match g with
  | none => some true
  | some (j, want) => match (ops[j]?).bind (·.dst) with
    | none => none
    | some t => match E t with
      | some (.bool b) => some (b == want)
      | some (.raw (.tuple _)) => some false
      | _ => none
def dstN (n : Nat) (t : Option Nat) : Prop := match t with | some t => t < n | none => True

theorem putE_comm (E : Env) {x y : Option Nat} (d e : D) (h : ∀ t, x = some t → y ≠ some t) : putE (putE E x d) y e = putE (putE E y e) x d := by
  cases x with
  | none => rfl
  | some t =>
    cases y with
    | none => rfl
    | some u =>
      have hne : t ≠ u := fun e => h t rfl (by rw [e])
      funext t'
      simp only [putE]
      by_cases h1 : t = t'
      · subst h1
        have : ¬ u = t := fun e => hne e.symm
        simp [this]
      · simp [h1]

section
variable {S : Setup} {ops : Array Oper} {bx : Nat → Option (List D)} {n : Nat} {md : Region.Mode}

/-- In the state E operation 'o' yields d. -/
def YieldsE (S : Setup) (ops : Array Oper) (bx : Nat → Option (List D)) (n : Nat) (o : Oper) (d : D) (E : Env) : Prop :=
  dstN n o.dst ∧ ((guardE ops E o.guard = some true ∧ ∀ K, K d → opY S o.op (evalE E) bx K) ∨ (guardE ops E o.guard = some false ∧ d = .raw undef))

def qE (S : Setup) (ops : Array Oper) (bx : Nat → Option (List D)) (n : Nat) (i : Nat) (K : Env → Prop) (E : Env) : Prop :=
  match ops[i]? with
  | none => K E
  | some o => ∃ d, YieldsE S ops bx n o d E ∧ K (putE E o.dst d)

def wpAnyE (S : Setup) (md : Region.Mode) (ops : Array Oper) (bx : Nat → Option (List D)) (n : Nat) (Q : Env → Prop) : Nat → Array Bool → Env → Prop
  | 0, listed, E => Region.ready md ops listed = [] ∧ Q E
  | fuel + 1, listed, E => (Region.ready md ops listed = [] → Q E) ∧ ∀ i ∈ Region.ready md ops listed, qE S ops bx n i (wpAnyE S md ops bx n Q fuel (listed.setIfInBounds i true)) E

theorem qE_mono {i : Nat} {E : Env} {K K' : Env → Prop} (h : ∀ E, K E → K' E) (hh : qE S ops bx n i K E) : qE S ops bx n i K' E := by
  unfold qE at *
  split
  · exact h _ (by simpa [*] using hh)
  · rename_i o ho
    simp only [ho] at hh
    obtain ⟨d, h1, h2⟩ := hh
    exact ⟨d, h1, h _ h2⟩

theorem YieldsE.qE {i : Nat} {o : Oper} {d : D} {E : Env} (hi : ops[i]? = some o) (hy : YieldsE S ops bx n o d E) {K : Env → Prop} (h : K (putE E o.dst d)) : qE S ops bx n i K E := by
  unfold Go.Lg.qE
  simp only [hi]
  exact ⟨d, hy, h⟩

theorem evalE_put {E : Env} {t : Option Nat} {d : D} {x : Operand} (h : ∀ u, t = some u → x ≠ .tmp u) : evalE (putE E t d) x = evalE E x := by
  cases t with
  | none => rfl
  | some u =>
    cases x with
    | tmp q =>
      have hne : u ≠ q := fun e => h u rfl (by rw [e])
      simp [evalE, putE, hne]
    | _ => rfl

theorem guardE_put (o : Oper) (E : Env) (t : Option Nat) (d : D) (h : ∀ u, t = some u → u ∉ o.looksAt ops) : guardE ops (putE E t d) o.guard = guardE ops E o.guard := by
  cases t with
  | none => rfl
  | some u =>
    unfold guardE
    cases hg : o.guard with
    | none => rfl
    | some p =>
      obtain ⟨j, want⟩ := p
      simp only
      cases ht : (ops[j]?).bind (·.dst) with
      | none => rfl
      | some q =>
        have hne : u ≠ q := fun e => h u rfl (by subst e; simp [Oper.looksAt, hg, ht])
        simp [putE, hne]

theorem yieldsE_put (o : Oper) (E : Env) (t : Option Nat) (e d : D) (h : ∀ u, t = some u → u ∉ o.looksAt ops) : YieldsE S ops bx n o d (putE E t e) ↔ YieldsE S ops bx n o d E := by
  have hop : ∀ x ∈ o.op.operands, evalE (putE E t e) x = evalE E x := fun x hx => evalE_put fun u hu hxu => h u hu (by
    subst hxu
    exact List.mem_append_left _ (List.mem_filterMap.2 ⟨.tmp u, by simpa using hx, rfl⟩))
  unfold YieldsE
  rw [guardE_put o E t e h]
  constructor
  · rintro ⟨h0, ⟨h1, h2⟩ | h2⟩
    · exact ⟨h0, .inl ⟨h1, fun K hK => opY_congr hop (h2 K hK)⟩⟩
    · exact ⟨h0, .inr h2⟩
  · rintro ⟨h0, ⟨h1, h2⟩ | h2⟩
    · exact ⟨h0, .inl ⟨h1, fun K hK => opY_congr (fun x hx => (hop x hx).symm) (h2 K hK)⟩⟩
    · exact ⟨h0, .inr h2⟩

theorem qE_put {j : Nat} {oi oj : Oper} {d : D} (hj : ops[j]? = some oj) (hap : oi.apart ops oj = true) {K : Env → Prop} {E : Env}
    (hy : YieldsE S ops bx n oi d E) (h : qE S ops bx n j K (putE E oi.dst d)) : qE S ops bx n j (fun E' => YieldsE S ops bx n oi d E' ∧ K (putE E' oi.dst d)) E := by
  obtain ⟨h1, h2, h3⟩ := Oper.apart_spec hap
  unfold qE at *
  simp only [hj] at *
  obtain ⟨e, he, hK⟩ := h
  refine ⟨e, (yieldsE_put oj E oi.dst d e h1).1 he, (yieldsE_put oi E oj.dst e d h3).2 hy, ?_⟩
  rw [← putE_comm E d e h2]
  exact hK

theorem wpAnyE_first {Q : Env → Prop} {i : Nat} {oi : Oper} {d : D} (hi : ops[i]? = some oi) :
    ∀ (fuel : Nat) (listed : Array Bool) (E : Env),
      (∀ j oj, ops[j]? = some oj → j ≠ i → listed.getD j true = false → (∀ e ∈ oj.after, Region.binds md e = true → e.on ≠ i) → oi.apart ops oj = true) →
      i ∈ Region.ready md ops listed → YieldsE S ops bx n oi d E →
      wpAnyE S md ops bx n Q fuel (listed.setIfInBounds i true) (putE E oi.dst d) → wpAnyE S md ops bx n Q (fuel + 1) listed E := by
  intro fuel
  induction fuel with
  | zero =>
    intro listed E _ hr hy H
    refine ⟨fun h => (by rw [h] at hr; cases hr), fun j hj => ?_⟩
    by_cases hji : j = i
    · subst hji; exact hy.qE hi H
    · have := ready_mono hj hji
      rw [H.1] at this
      cases this
  | succ fuel ih =>
    intro listed E hfree hr hy H
    refine ⟨fun h => (by rw [h] at hr; cases hr), fun j hj => ?_⟩
    by_cases hji : j = i
    · subst hji; exact hy.qE hi H
    · have h1 := H.2 j (ready_mono hj hji)
      obtain ⟨hjun, oj, hoj, hall⟩ := mem_ready.1 hj
      have hnot : ∀ e ∈ oj.after, Region.binds md e = true → e.on ≠ i := fun e he hb heq => by
        have h1 := hall e he hb
        have h0 := (mem_ready.1 hr).1
        rw [heq] at h1
        rcases Nat.lt_or_ge i listed.size with h' | h'
        · simp [h'] at h0 h1; rw [h0] at h1; cases h1
        · simp [Array.getElem?_eq_none h'] at h1
      have h2 := qE_put hoj (hfree j oj hoj hji hjun hnot) hy h1
      have hfree' : ∀ k ok, ops[k]? = some ok → k ≠ i → (listed.setIfInBounds j true).getD k true = false →
          (∀ e ∈ ok.after, Region.binds md e = true → e.on ≠ i) → oi.apart ops ok = true := fun k ok hk hki hun hno => by
        refine hfree k ok hk hki ?_ hno
        by_cases hjk : j = k
        · subst hjk; exact hjun
        · rw [getD_set_ne true hjk] at hun; exact hun
      refine qE_mono (fun E' h3 => ih (listed.setIfInBounds j true) E' hfree' (ready_mono hr (Ne.symm hji)) h3.1 ?_) h2
      rw [Array.setIfInBounds_comm _ _ hji]
      exact h3.2

/-- The text's order. -/
def lexE (S : Setup) (ops : Array Oper) (bx : Nat → Option (List D)) (n : Nat) (Q : Env → Prop) : List Oper → Env → Prop
  | [], E => Q E
  | o :: l, E => ∃ d, YieldsE S ops bx n o d E ∧ lexE S ops bx n Q l (putE E o.dst d)

theorem wpAnyE_lex {Q : Env → Prop} : ∀ (l : List Oper) (k : Nat) (listed : Array Bool) (E : Env), (∀ j, l[j]? = ops[k + j]?) →
    Region.lexFrom md ops l.length k listed = true → lexE S ops bx n Q l E → wpAnyE S md ops bx n Q l.length listed E
  | [], _, _, _, _, hB, h => ⟨by simpa [Region.lexFrom] using hB, h⟩
  | o :: l, k, listed, E, hl, hB, h => by
    have h0 : ops[k]? = some o := by simpa using (hl 0).symm
    simp only [List.length_cons, Region.lexFrom, Bool.and_eq_true] at hB
    obtain ⟨⟨hr, hf⟩, hB'⟩ := hB
    obtain ⟨d, hy, hK⟩ := h
    exact wpAnyE_first h0 l.length listed E (Region.free_spec h0 hf) (by simpa using hr) hy
      (wpAnyE_lex l (k + 1) _ _ (fun j => by have := hl (j + 1); simpa [Nat.add_assoc, Nat.add_comm 1 j] using this) hB' hK)

/-- The model's frame and world, of a state whose slots are E. -/
def SimE (B : Base) (L0 : LS) (E : Env) (G : Ghost) (a : Act) (w : World) : Prop :=
  ∃ L, (look L.env = E ∧ L.n = L0.n ∧ L.boxes = L0.boxes ∧ L.ro = L0.ro ∧ L.toks = L0.toks ∧ L.fix = L0.fix) ∧ Sim B L G a w

theorem evalE_eq {L : LS} {E : Env} (h : look L.env = E) : evalO L = evalE E := by
  funext x
  cases x <;> first | rfl | (simp only [evalO, evalE, LS.get, h])
theorem guardE_eq {L : LS} {E : Env} (h : look L.env = E) (g : Option (Nat × Bool)) : guardY ops L g = guardE ops E g := by
  subst h; rfl
theorem getBox_eq {L L0 : LS} (h1 : L.boxes = L0.boxes) (h2 : L.ro = L0.ro) : L.getBox = L0.getBox := by
  funext id
  simp only [LS.getBox, h1, h2]

theorem SimE.put {B : Base} {L0 : LS} {E : Env} {G : Ghost} {a : Act} {w : World} (h : SimE B L0 E G a w) {t : Option Nat} {d : D} {v : Value} (ht : dstN L0.n t) (hr : Rel G w d v) : SimE B L0 (putE E t d) G (a.put t v) w := by
  obtain ⟨L, ⟨h1, h2, h3, h4, h5, h6⟩, hs⟩ := h
  cases t with
  | none => exact ⟨L, ⟨h1, h2, h3, h4, h5, h6⟩, hs⟩
  | some t =>
    refine ⟨L.put t d, ⟨?_, h2, h3, h4, h5, h6⟩, hs.put (by rw [h2]; exact ht) hr⟩
    funext t'
    simp only [LS.put, look_setA, putE, ← h1]

theorem wpOp_of_qE {B : Base} {L0 : LS} {i : Nat} {E : Env} {G : Ghost} {a : Act} {w : World} {K : Env → Prop} {K' : Act → World → Prop} {Q' : Exit → Act → World → Prop} (hs : SimE B L0 E G a w)
    (h : ∀ E G a' w', SimE B L0 E G a' w' → K E → K' a' w') (hh : qE S ops L0.getBox L0.n i K E) : wpOp S.P ops Q' i K' a w := by
  unfold qE at hh
  unfold wpOp
  split
  · rename_i ho; simp only [ho] at hh; exact h E G a w hs hh
  · rename_i o ho
    simp only [ho] at hh
    obtain ⟨d, ⟨hd, hy⟩, hK⟩ := hh
    obtain ⟨L, ⟨h1, h2, h3, h4, h5, h6⟩, hsim⟩ := hs
    rcases hy with ⟨hg, hop⟩ | ⟨hg, rfl⟩
    · rw [if_pos (guardY_sound (S := S) rfl hsim (by rw [guardE_eq h1]; exact hg))]
      left
      have hop' : opY S o.op (evalO L) L.getBox (fun x => x = d) := by rw [evalE_eq h1, getBox_eq h3 h4]; exact hop _ rfl
      obtain ⟨d', hd', hyld⟩ := opY_sound hsim hop'
      subst hd'
      exact hyld K' Q' fun v G' w' hs' hr _ => h _ G' _ w' (SimE.put ⟨L, ⟨h1, h2, h3, h4, h5, h6⟩, hs'⟩ hd hr) hK
    · rw [if_neg (by rw [guardY_sound (S := S) rfl hsim (by rw [guardE_eq h1]; exact hg)]; simp)]
      exact h _ G _ w (SimE.put ⟨L, ⟨h1, h2, h3, h4, h5, h6⟩, hsim⟩ hd (.raw (by intro cs h; cases h))) hK

theorem wpAny_of_E {B : Base} {L0 : LS} {Q : Env → Prop} {Q' : Exit → Act → World → Prop} (hQ : ∀ E G a w, SimE B L0 E G a w → Q E → Q' .normal a w) : ∀ (fuel : Nat) (listed : Array Bool) (E : Env) (G : Ghost) (a : Act) (w : World), SimE B L0 E G a w →
    wpAnyE S md ops L0.getBox L0.n Q fuel listed E → wpAny S.P md ops Q' fuel listed a w
  | 0, _, _, _, _, _, hs, h => ⟨h.1, hQ _ _ _ _ hs h.2⟩
  | fuel + 1, _, _, _, _, _, hs, h => ⟨fun h0 => hQ _ _ _ _ hs (h.1 h0), fun i hi => wpOp_of_qE hs (fun E G a' w' hs' hK => wpAny_of_E hQ fuel _ E G a' w' hs' hK) (h.2 i hi)⟩
end

/-- The text's order, in states as lists. -/
def LexQ (S : Setup) (ops : Array Oper) (L0 : LS) (K : LS → Prop) (l : List Oper) (L : LS) : Prop :=
  (L.n = L0.n ∧ L.boxes = L0.boxes ∧ L.ro = L0.ro ∧ L.toks = L0.toks ∧ L.fix = L0.fix) →
  lexE S ops L0.getBox L0.n (fun E => ∃ L', look L'.env = E ∧ (L'.n = L0.n ∧ L'.boxes = L0.boxes ∧ L'.ro = L0.ro ∧ L'.toks = L0.toks ∧ L'.fix = L0.fix) ∧ K L') l (look L.env)

theorem LexQ.nil {S : Setup} {ops : Array Oper} {L0 L : LS} {K : LS → Prop} (h : K L) : LexQ S ops L0 K [] L := fun hL => ⟨L, rfl, hL, h⟩

theorem look_putO (L : LS) (t : Option Nat) (d : D) : look (L.putO t d).env = putE (look L.env) t d := by
  cases t with
  | none => rfl
  | some t => funext t'; simp only [LS.putO, LS.put, look_setA, putE]

theorem LexQ.step {S : Setup} {ops : Array Oper} {L0 L : LS} {K : LS → Prop} {o : Oper} {l : List Oper} (hg : guardY ops L o.guard = some true) (h : opY S o.op (evalO L) L.getBox fun d => dstOk o.dst L ∧ LexQ S ops L0 K l (L.putO o.dst d)) : LexQ S ops L0 K (o :: l) L := by
  intro hL
  obtain ⟨h1, h2, h3, h4, h5⟩ := hL
  obtain ⟨d, ⟨hd, hK⟩, hy⟩ := pick_opY S o.op (evalO L) L.getBox _ h
  refine ⟨d, ⟨?_, .inl ⟨by rw [← guardE_eq rfl]; exact hg, fun K' hk => ?_⟩⟩, ?_⟩
  · unfold dstN; unfold dstOk at hd
    rw [h1] at hd; exact hd
  · rw [← evalE_eq rfl, ← getBox_eq (L := L) (L0 := L0) h2 h3]
    exact hy K' hk
  · rw [← look_putO]
    exact hK (by cases o.dst <;> exact ⟨h1, h2, h3, h4, h5⟩)

theorem LexQ.skip {S : Setup} {ops : Array Oper} {L0 L : LS} {K : LS → Prop} {o : Oper} {l : List Oper} (hg : guardY ops L o.guard = some false) (hd : dstOk o.dst L) (h : LexQ S ops L0 K l (L.putO o.dst (.raw undef))) : LexQ S ops L0 K (o :: l) L := by
  intro hL
  have hL' := hL
  obtain ⟨h1, h2, h3, h4, h5⟩ := hL
  refine ⟨.raw undef, ⟨?_, .inr ⟨by rw [← guardE_eq rfl]; exact hg, rfl⟩⟩, ?_⟩
  · unfold dstN; unfold dstOk at hd
    rw [h1] at hd; exact hd
  · rw [← look_putO]
    exact h (by cases o.dst <;> exact ⟨h1, h2, h3, h4, h5⟩)

/-- A test that is not known: two ways. -/
theorem LexQ.split {S : Setup} {ops : Array Oper} {L0 L : LS} {K : LS → Prop} {l : List Oper} (t : Nat) {b : Bool} (ht : L.get t = some (.bool b)) (h1 : b = true → LexQ S ops L0 K l (L.put t (.bool true))) (h0 : b = false → LexQ S ops L0 K l (L.put t (.bool false))) : LexQ S ops L0 K l L := by
  intro hL
  have key : ∀ c, b = c → look (L.put t (.bool c)).env = look L.env := fun c hc => by
    funext t'
    simp only [LS.put, look_setA]
    by_cases e : t = t'
    · subst e
      rw [if_pos rfl, ← hc]
      exact ht.symm
    · rw [if_neg e]
  cases hb : b with
  | true => rw [← key true hb]; exact h1 hb hL
  | false => rw [← key false hb]; exact h0 hb hL

theorem LexQ.call {S : Setup} {ops : Array Oper} {L0 L : LS} {K : LS → Prop} {l : List Oper} {dst : Option Nat} {f : Operand} {args : Array Operand} {tys : Array TypeId} {ty : TypeId} {pos : String} {aft : Array Edge} {g : Option (Nat × Bool)}
    (hg : guardY ops L g = some true) {fid : Nat} {cap ds : List D} {ro : List (Nat × List D)} {d : D} (hf : evalO L f = some (.fn fid cap)) (hds : mapO (evalO L) args.toList = some ds) (fc : FC S fid ro [] [] (ds ++ cap) d [] [])
    (hside : (∀ p ∈ ro, L.getBox p.1 = some p.2) ∧ d.ids = [] ∧ d.tks = [] ∧ dstOk dst L) (h : LexQ S ops L0 K l (L.putO dst d)) : LexQ S ops L0 K (⟨dst, .call ⟨.value f, args, tys⟩, ty, pos, aft, g⟩ :: l) L := by
  refine LexQ.step hg ?_
  show opY S (.call ⟨.value f, args, tys⟩) (evalO L) L.getBox _
  unfold opY
  simp only [hf, hds, someK]
  exact ⟨ro, d, fc, hside.1, hside.2.1, hside.2.2.1, hside.2.2.2, h⟩

/-- As 'runL'. -/
def runQ (S : Setup) (ops : Array Oper) (K : List Oper → LS → Prop) : List Oper → LS → Prop
  | [], L => K [] L
  | ⟨dst, op, ty, pos, aft, g⟩ :: l, L => match op with
    | .call ⟨.value f, args, tys⟩ => K (⟨dst, .call ⟨.value f, args, tys⟩, ty, pos, aft, g⟩ :: l) L
    | .alloc T => K (⟨dst, .alloc T, ty, pos, aft, g⟩ :: l) L
    | .store T x y => K (⟨dst, .store T x y, ty, pos, aft, g⟩ :: l) L
    | op => match guardY ops L g with
      | some true => opY S op (evalO L) L.getBox fun d => dstOk dst L ∧ runQ S ops K l (L.putO dst d)
      | some false => dstOk dst L ∧ runQ S ops K l (L.putO dst (.raw undef))
      | none => K (⟨dst, op, ty, pos, aft, g⟩ :: l) L

theorem opY_mono {S : Setup} {op : Op} {ρ : Operand → Option D} {bx : Nat → Option (List D)} {K K' : D → Prop} (h : opY S op ρ bx K) (hK : ∀ d, K d → K' d) : opY S op ρ bx K' := by
  obtain ⟨d, h1, h2⟩ := pick_opY S op ρ bx K h
  exact h2 K' (hK d h1)

theorem runQ_sound {S : Setup} {ops : Array Oper} {L0 : LS} {K : LS → Prop} {K' : List Oper → LS → Prop} (hK : ∀ l L, K' l L → LexQ S ops L0 K l L) : ∀ (l : List Oper) (L : LS), runQ S ops K' l L → LexQ S ops L0 K l L
  | [], L, h => hK [] L h
  | ⟨dst, op, ty, pos, aft, g⟩ :: l, L, h => by
    unfold runQ at h
    split at h
    · exact hK _ L h
    · exact hK _ L h
    · exact hK _ L h
    · split at h
      · rename_i hg
        exact LexQ.step (o := ⟨dst, op, ty, pos, aft, g⟩) hg (opY_mono h fun d ⟨h1, h2⟩ => ⟨h1, runQ_sound hK l _ h2⟩)
      · rename_i hg
        exact LexQ.skip (o := ⟨dst, op, ty, pos, aft, g⟩) hg h.1 (runQ_sound hK l _ h.2)
      · exact hK _ L h

/-- A draw turns nothing. -/
theorem drew_sim {B : Base} {L : LS} {G : Ghost} {a : Act} {w : World} (h : Sim B L G a w) : Sim B L G a { w with drawn := w.drawn + 1 } := by
  have hr : ∀ d v, Rel G w d v → Rel G { w with drawn := w.drawn + 1 } d v := fun d v hr =>
    hr.mono (show Mono G G w { w with drawn := w.drawn + 1 } from ⟨fun _ _ _ h1 h2 => ⟨h1, h2⟩, fun _ _ => rfl⟩) (fun _ _ _ h => h) (fun _ _ => .inr ⟨rfl, fun _ _ _ _ => ⟨rfl, rfl⟩⟩)
  have hb : ∀ {g cs}, BoxAt G w g cs → BoxAt G { w with drawn := w.drawn + 1 } g cs := fun ⟨vs, e, e1, e2, e3⟩ => ⟨vs, e, e1, e2, fun j d v hd hv => hr d v (e3 j d v hd hv)⟩
  exact h.move { h.W with
    boxes := fun id cs hl => let ⟨g, h1, h2, h3⟩ := h.W.boxes id cs hl; ⟨g, h1, hb h2, h3⟩
    robs := fun id cs hl => let ⟨g, h1, h2, h3⟩ := h.W.robs id cs hl; ⟨g, h1, hb h2, h3⟩
    tau := h.W.tau
    old := h.W.old
    olda := h.W.olda
    os := h.W.os
    tape := h.W.tape
    out := h.W.out } hr

/-- A region that draws its order. -/
theorem draw_sound {S : Setup} {B : Base} {id : Nat} {ops : Array Oper} {L : LS} {G : Ghost} {a : Act} {w : World} {K : LS → Prop} (hB : Region.lexB .any ops = true) (h : LexQ S ops L K ops.toList L) (hs : Sim B L G a w) {Q : Exit → Act → World → Prop}
    (hQ : ∀ L' G' a' w', K L' → Sim B L' G' a' w' → Q .normal a' w') : (Code.region id ops true).wp S.P Q a w := by
  simp only [Region.lexB, Bool.and_eq_true] at hB
  refine wp_region_any S.mixed (wpAny_of_E (L0 := L) (Q := fun E => ∃ L', look L'.env = E ∧ (L'.n = L.n ∧ L'.boxes = L.boxes ∧ L'.ro = L.ro ∧ L'.toks = L.toks ∧ L'.fix = L.fix) ∧ K L') ?_ ops.size _ (look L.env) G a _ ⟨L, ⟨rfl, rfl, rfl, rfl, rfl, rfl⟩, drew_sim hs⟩ ?_)
  · rintro E G' a' w' ⟨L1, ⟨e1, e2, e3, e4, e5, e6⟩, hs'⟩ ⟨L', f1, ⟨f2, f3, f4, f5, f6⟩, hK⟩
    refine hQ L' G' a' w' hK ⟨hs'.defers, by rw [f2, ← e2]; exact hs'.size, fun t d hd => ?_, ?_, by rw [f6, ← e6]; exact hs'.fixed⟩
    · rw [f1, ← e1] at hd
      exact hs'.env t d hd
    · rw [f3, f4, f5, ← e3, ← e4, ← e5]; exact hs'.W
  · have := wpAnyE_lex (md := .any) ops.toList 0 (Array.replicate ops.size false) (look L.env) (by simp) (by simpa using hB.2) (h ⟨rfl, rfl, rfl, rfl, rfl⟩)
    simpa using this

end Go.Lg
